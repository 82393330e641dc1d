/-
  table.Width, walked by hand: how many runes.
-/
import Derived.Test.YthlbdbaanlehhaaDoorPr0
import Derived.Test.YthlbdbaanlehhaaDoorG
import Derived.Test.YthlbdbaanlehhaaDoorHStr
namespace Go.Proofs.YthlbdbaanlehhaaDoor.Pr
open Go.RowKit Go.Proofs.YthlbdbaanlehhaaDoorW.PrintWords Go.Proofs.YthlbdbaanlehhaaDoorW.PrintLast Go.Proofs.YthlbdbaanlehhaaDoorG Go.Proofs.YthlbdbaanlehhaaDoor
set_option linter.unusedVariables false
set_option linter.unusedSimpArgs false
def table_Width.f (a0 : ByteArray) : Option Int := if a0.size ≤ 9223372036854775806 then some (wid a0 : Int) else none
set_option maxHeartbeats 400000 in
theorem width_any (s : ByteArray) (w : World) (hs : s.size ≤ 9223372036854775806) :
    Calls Tryd.prog 12 #[.string s] w fun e w' => e = .returned (.int .i64 (wid s)) ∧ Below w.heap.size w w' := by
  go_enter Tryd.func12, Tryd.ntmps12
  go_wp2
  go_loopw [3] (fun n wr => ∃ k : Nat, Hd (∀ j, j < k → posOf s j < s.size) ∧ wr = w.iter s (posOf s k) ∧ n = .int .i64 (k : Int)) (fun _ wr => s.size - wr.iterPos w.heap.size)
  case atStart => exact ⟨0, hd (fun j hj => by omega), rfl, rfl⟩
  case round =>
    obtain ⟨k, HK, rfl, rfl⟩ := hrel
    obtain ⟨p, hp⟩ : ∃ p, posOf s k = p := ⟨_, rfl⟩
    have HP := hd hp
    have hk : k ≤ p := by rw [← hp]; exact posOf_ge s k HK.out
    rw [hp]
    clear hp
    by_cases hlt : p < s.size
    · have hw1 := width_pos s p hlt
      have hnx : ∀ ty, (Instr.next (.pointer (some ⟨w.heap.size, 0, none⟩)) true ty).run Tryd.prog (w.iter s p) = _ := fun ty => run_next_any w s p ty hlt
      go_wp2
      go_roundw
      case rel => exact ⟨k + 1, hd (fun j hj => by
        by_cases e : j = k
        · subst e; rw [HP.out]; exact hlt
        · exact HK.out j (by omega)), by show _ = w.iter s (posOf s k + (Utf8.decode s (posOf s k)).2); rw [HP.out], by go_num⟩
      case measure => simp; omega
    · have hnx : ∀ ty, (Instr.next (.pointer (some ⟨w.heap.size, 0, none⟩)) true ty).run Tryd.prog (w.iter s p) = _ := fun ty => run_next_end w s p ty hlt
      go_wp2
      go_ret
      rw [wid_is s k HK.out (by rw [HP.out]; exact hlt)]
      exact ⟨rfl, below_alloc (Below.refl _ _) _⟩
theorem table_Width.calls (a0 : ByteArray) (r : Int) (w : World) (h : table_Width.f a0 = some r) : Calls Tryd.prog 12 #[.string a0] w fun e w' => e = .returned (.int .i64 r) ∧ Below w.heap.size w w' := by
  unfold table_Width.f at h
  split at h
  · cases h
    exact width_any a0 w (by assumption)
  · cases h
end Go.Proofs.YthlbdbaanlehhaaDoor.Pr
