/-
  musterlaw31.broken, walked by hand: has a text a rune 10, or U+FFFD?
-/
import Derived.Test.YthlbdbaanlehhaaDoorPr0
import Derived.Test.YthlbdbaanlehhaaDoorG
import Derived.Test.YthlbdbaanlehhaaDoorHStr
namespace Go.Proofs.YthlbdbaanlehhaaDoor.Pr
open Go.RowKit Go.Proofs.YthlbdbaanlehhaaDoorW.PrintWords Go.Proofs.YthlbdbaanlehhaaDoorW.PrintLast Go.Proofs.YthlbdbaanlehhaaDoorG Go.Proofs.YthlbdbaanlehhaaDoor
set_option linter.unusedVariables false
set_option linter.unusedSimpArgs false
/-- Is the rune with the number k one that breaks? -/
def badAt (s : ByteArray) (k : Nat) : Bool := decide ((Utf8.decode s (posOf s k)).1 = 10) || decide ((Utf8.decode s (posOf s k)).1 = 65533)
def brokenB (s : ByteArray) : Bool := (List.range (wid s)).any (badAt s)
def musterlaw31_broken.f (a0 : ByteArray) : Option Bool := some (brokenB a0)
theorem broken_of {s : ByteArray} {k : Nat} (hk : k < wid s) (h : badAt s k = true) : brokenB s = true := by
  unfold brokenB
  rw [List.any_eq_true]
  exact ⟨k, List.mem_range.2 hk, h⟩
theorem broken_no {s : ByteArray} (h : ∀ k, k < wid s → badAt s k = false) : brokenB s = false := by
  unfold brokenB
  rw [List.any_eq_false]
  intro k hk
  rw [h k (List.mem_range.1 hk)]
  simp
set_option maxHeartbeats 400000 in
theorem broken_any (s : ByteArray) (w : World) :
    Calls Tryd.prog 20 #[.string s] w fun e w' => e = .returned (.bool (brokenB s)) ∧ Below w.heap.size w w' := by
  go_enter Tryd.func20, Tryd.ntmps20
  go_wp2
  go_loopw [] (fun wr => ∃ k : Nat, Hd (∀ j, j < k → posOf s j < s.size ∧ badAt s j = false) ∧ wr = w.iter s (posOf s k)) (fun wr => s.size - wr.iterPos w.heap.size)
  case atStart => exact ⟨0, hd (fun j hj => by omega), rfl⟩
  case round =>
    obtain ⟨k, HK, rfl⟩ := hrel
    obtain ⟨p, hp⟩ : ∃ p, posOf s k = p := ⟨_, rfl⟩
    have HP := hd hp
    rw [hp]
    clear hp
    by_cases hlt : p < s.size
    · have hw1 := width_pos s p hlt
      have hle := decode_le s p
      have hnx : ∀ ty, (Instr.next (.pointer (some ⟨w.heap.size, 0, none⟩)) true ty).run Tryd.prog (w.iter s p) = _ := fun ty => run_next_any w s p ty hlt
      have hwk : k < wid s := wid_gt s k fun j hj => by
        by_cases e : j = k
        · subst e; rw [HP.out]; exact hlt
        · exact (HK.out j (by omega)).1
      have HW := hd hwk
      clear hwk
      obtain ⟨r, hr⟩ : ∃ r, (Utf8.decode s p).1 = r := ⟨_, rfl⟩
      have HR := hd hr
      rw [hr] at hnx hle
      clear hr
      by_cases h10 : r = 10
      · have h10' : (r : Int) = 10 := by omega
        have HB : Hd (brokenB s = true) := hd (broken_of HW.out (by unfold badAt; rw [HP.out, HR.out, decide_eq_true h10]; rfl))
        go_wp2
        go_ret
        rw [HB.out]
        exact ⟨rfl, below_alloc (Below.refl _ _) _⟩
      · have h10' : ¬ (r : Int) = 10 := by omega
        by_cases hf : r = 65533
        · have hf' : (r : Int) = 65533 := by omega
          have HB : Hd (brokenB s = true) := hd (broken_of HW.out (by unfold badAt; rw [HP.out, HR.out, decide_eq_true hf, Bool.or_true]))
          go_wp2
          go_ret
          rw [HB.out]
          exact ⟨rfl, below_alloc (Below.refl _ _) _⟩
        · have hf' : ¬ (r : Int) = 65533 := by omega
          have HBA : Hd (badAt s k = false) := hd (by unfold badAt; rw [HP.out, HR.out, decide_eq_false h10, decide_eq_false hf]; rfl)
          have hb1 : ((r : Int) == 10) = false := beq_eq_false_iff_ne.2 h10'
          have hb2 : ((r : Int) == 65533) = false := beq_eq_false_iff_ne.2 hf'
          clear h10 hf h10' hf'
          go_wp2
          go_roundw
          case rel => exact ⟨k + 1, hd (fun j hj => by
            by_cases e : j = k
            · subst e; rw [HP.out]; exact ⟨hlt, HBA.out⟩
            · exact HK.out j (by omega)), by show _ = w.iter s (posOf s k + (Utf8.decode s (posOf s k)).2); rw [HP.out]⟩
          case measure => simp; omega
    · have hnx : ∀ ty, (Instr.next (.pointer (some ⟨w.heap.size, 0, none⟩)) true ty).run Tryd.prog (w.iter s p) = _ := fun ty => run_next_end w s p ty hlt
      have HB : Hd (brokenB s = false) := hd (broken_no fun j hj => by
        rw [wid_is s k (fun j hj => (HK.out j hj).1) (by rw [HP.out]; exact hlt)] at hj
        exact (HK.out j hj).2)
      go_wp2
      go_ret
      rw [HB.out]
      exact ⟨rfl, below_alloc (Below.refl _ _) _⟩
theorem musterlaw31_broken.calls (a0 : ByteArray) (r : Bool) (w : World) (h : musterlaw31_broken.f a0 = some r) : Calls Tryd.prog 20 #[.string a0] w fun e w' => e = .returned (.bool r) ∧ Below w.heap.size w w' := by
  cases h
  exact broken_any a0 w
end Go.Proofs.YthlbdbaanlehhaaDoor.Pr
