/-
  musterref31.places, walked by hand: where each rune begins, and the end.
-/
import Derived.Test.YthlbdbaanlehhaaDoorPr0
import Derived.Test.YthlbdbaanlehhaaDoorG
import Derived.Test.YthlbdbaanlehhaaDoorHStr
import Derived.Lib.OthersKept
namespace Go.Proofs.YthlbdbaanlehhaaDoor.Pr
open Go.RowKit Go.Proofs.YthlbdbaanlehhaaDoorW.PrintWords Go.Proofs.YthlbdbaanlehhaaDoorW.PrintLast Go.Proofs.YthlbdbaanlehhaaDoorW.PrintMore Go.Proofs.YthlbdbaanlehhaaDoorG Go.Proofs.YthlbdbaanlehhaaDoor
set_option linter.unusedVariables false
set_option linter.unusedSimpArgs false
/-- Where the first k runes begin. -/
def starts (s : ByteArray) (k : Nat) : List Int := (List.range k).map fun j => (posOf s j : Int)
def places (s : ByteArray) : List Int := starts s (wid s) ++ [(s.size : Int)]
def musterref31_places.f (a0 : ByteArray) : Option (List Int) := if (a0.size + 1) * 8 ≤ 140737488355328 then some (places a0) else none
theorem starts_succ (s : ByteArray) (k : Nat) : starts s (k + 1) = starts s k ++ [(posOf s k : Int)] := by simp [starts, List.range_succ]
theorem starts_length (s : ByteArray) (k : Nat) : (starts s k).length = k := by simp [starts]
theorem hold_ {p : Prop} (h : Hd p) : p := h.out
set_option maxRecDepth 100000 in
set_option maxHeartbeats 800000 in
theorem places_any (s : ByteArray) (w : World) (hs : (s.size + 1) * 8 ≤ 140737488355328) :
    Calls Tryd.prog 30 #[.string s] w fun e w' => ∃ v0_ : Value, e = .returned v0_ ∧ Kd.R (Kd.int .i64) 3 w' w.heap.size (fun _ => True) v0_ (places s) ∧ Below w.heap.size w w' := by
  obtain ⟨b, hb⟩ : ∃ b, w.heap.size = b := ⟨_, rfl⟩
  have HB0 := hd hb
  go_enter Tryd.func30, Tryd.ntmps30
  go_wp2
  clear hb
  go_loopw [3] (fun v wr => ∃ k : Nat, Hd (∀ j, j < k → posOf s j < s.size) ∧ Hd (wr.heap[b]? = some (.stringIter s (posOf s k))) ∧ Hd (Kd.R (Kd.int .i64) 3 wr (b + 1) (fun _ => True) v (starts s k)) ∧ Hd (Below b w wr)) (fun _ wr => s.size - wr.iterPos b)
  case atStart => exact ⟨0, hd (fun j hj => by omega), hd (by have := World.iter_heap w s 0; rw [HB0.out] at this; exact this), hd (Kd.R_nil _ _ _ _ _), hd (by have := below_alloc (Below.refl w.heap.size w) (.stringIter s 0); rw [HB0.out] at this; exact this)⟩
  case round =>
    obtain ⟨k, HK, HI, HO, HBW⟩ := hrel
    obtain ⟨p, hp⟩ : ∃ p, posOf s k = p := ⟨_, rfl⟩
    have HP := hd hp
    have hk : k ≤ p := by rw [← hp]; exact posOf_ge s k HK.out
    rw [hp] at HI
    clear hp
    have hbs : b < wr.heap.size := (Array.getElem?_eq_some_iff.1 HI.out).1
    by_cases hlt : p < s.size
    · have hw1 := width_pos s p hlt
      have hnx : ∀ ty, (Instr.next (.pointer (some ⟨b, 0, none⟩)) true ty).run Tryd.prog wr = _ := fun ty => Lib.run_next_any_at wr b s p ty HI.out hlt
      obtain ⟨q, hq⟩ : ∃ q, p + (Utf8.decode s p).2 = q := ⟨_, rfl⟩
      have HQ := hd hq
      rw [hq] at hnx
      clear hq
      have HI2 : Hd ((wr.iterAt b s q).heap[b]? = some (.stringIter s q)) := hd (Lib.iterAt_heap wr b s p q HI.out)
      have HB2 : Hd (Below b w (wr.iterAt b s q)) := hd (Lib.below_iterAt HBW.out (Nat.le_refl _) s q)
      have HO2 : Hd (Kd.R (Kd.int .i64) 3 (wr.iterAt b s q) (b + 1) (fun _ => True) u3 (starts s k)) := hd (Kd.R_mono (Kd.R_step (Kd.R_bound HO.out) (fun j hj _ => Lib.iterAt_other wr b j s q (by have := hj.2.1; omega))) (fun _ _ => trivial))
      have hs2 : b < (wr.iterAt b s q).heap.size := by rw [Lib.iterAt_size]; exact hbs
      generalize wr.iterAt b s q = W2 at hnx HI2 HB2 HO2 hs2
      clear HO
      go_wp2_with ((with_reducible refine gate_builtin (b := .append) (xs := #[.tmp 10, .tmp 12]) rfl ?_); at_builtin; refine Kd.R_append (Kd.int .i64) (w0 := W2) (b + 1) rfl (.tmp 10) (.tmp 12) 23 3 (.int .i64 0) 8 rfl Tryd.underlying23 info3 rfl (by decide) (by omega) u3 (starts s k) (p : Int) [.int .i64 (p : Int)] (fun _ => True) (fun _ => False) rfl rfl rfl (fun _ hk => hk.elim) (fun _ _ => trivial) HO2.out ?aB ?aS ?aL ?_; (case aB => exact Below.refl _ _); (case aS => omega); (case aL => rw [starts_length]; omega); intro v1 w1 hv1 hb1 hg1 hat1)
      go_roundw
      case rel => exact ⟨k + 1, hd (fun j hj => by
        by_cases e : j = k
        · subst e; rw [HP.out]; exact hlt
        · exact HK.out j (by omega)), hd (by show _ = some (Obj.stringIter s (posOf s k + (Utf8.decode s (posOf s k)).2)); rw [HP.out, HQ.out, hb1.block b (by omega)]; exact HI2.out), hd (by rw [starts_succ, HP.out]; exact hv1), hd (HB2.out.trans (hb1.mono (by omega)))⟩
      case measure =>
        have e1 := HI.out
        have e2 := (hb1.block b (by omega)).trans HI2.out
        have e3 := HQ.out
        simp only [World.iterPos, e1, e2]
        omega
    · have hnx : ∀ ty, (Instr.next (.pointer (some ⟨b, 0, none⟩)) true ty).run Tryd.prog wr = _ := fun ty => Lib.run_next_end_at wr b s p ty HI.out hlt
      have HW : Hd (wid s = k) := hd (wid_is s k HK.out (by rw [HP.out]; exact hlt))
      have hks : k ≤ s.size := by rw [← HW.out]; exact wid_le s
      clear HP
      go_wp2_with ((with_reducible refine gate_builtin (b := .append) (xs := #[.tmp 14, .tmp 17]) rfl ?_); at_builtin; refine Kd.R_append (Kd.int .i64) (w0 := wr) (b + 1) rfl (.tmp 14) (.tmp 17) 23 3 (.int .i64 0) 8 rfl Tryd.underlying23 info3 rfl (by decide) (by omega) u3 (starts s k) (s.size : Int) [.int .i64 (s.size : Int)] (fun _ => True) (fun _ => False) rfl rfl rfl (fun _ hk => hk.elim) (fun _ _ => trivial) HO.out ?aB ?aS ?aL ?_; (case aB => exact Below.refl _ _); (case aS => omega); (case aL => rw [starts_length]; omega); intro v1 w1 hv1 hb1 hg1 hat1)
      go_ret
      refine ⟨_, rfl, ?_, ?_⟩
      · unfold places
        rw [HW.out]
        exact Kd.R_lower hv1 (by have := HB0.out; omega)
      · have e := HB0.out
        rw [e]
        exact HBW.out.trans (hb1.mono (by omega))
theorem musterref31_places.calls (a0 : ByteArray) (r : List Int) (w : World) (h : musterref31_places.f a0 = some r) : Calls Tryd.prog 30 #[.string a0] w fun e w' => ∃ v0_ : Value, e = .returned v0_ ∧ Kd.R (Kd.int .i64) 3 w' w.heap.size (fun _ => True) v0_ r ∧ Below w.heap.size w w' := by
  unfold musterref31_places.f at h
  split at h
  · cases h
    exact places_any a0 w (by assumption)
  · cases h
end Go.Proofs.YthlbdbaanlehhaaDoor.Pr
