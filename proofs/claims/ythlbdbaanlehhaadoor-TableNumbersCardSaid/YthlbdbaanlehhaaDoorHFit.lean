/-
  table.Fit, walked by hand: just so wide.
-/
import Derived.Test.YthlbdbaanlehhaaDoorHRepeat
import Derived.Test.YthlbdbaanlehhaaDoorHStr
namespace Go.Proofs.YthlbdbaanlehhaaDoor.Pr
open Go.RowKit Go.Proofs.YthlbdbaanlehhaaDoorW.PrintWords Go.Proofs.YthlbdbaanlehhaaDoorW.PrintLast Go.Proofs.YthlbdbaanlehhaaDoorG Go.Proofs.YthlbdbaanlehhaaDoor
set_option linter.unusedVariables false
set_option linter.unusedSimpArgs false
def fit (s : ByteArray) (width : Int) (right : Bool) : ByteArray :=
  if width < 1 then ByteArray.empty else if width < (wid s : Int) then s.extract 0 (posOf s width.toNat) else
    if right = true then blanks (width.toNat - wid s) ++ s else s ++ blanks (width.toNat - wid s)
def table_Fit.f (a0 : ByteArray) (a1 : Int) (a2 : Bool) : Option ByteArray := if a0.size ≤ 140737488355328 ∧ a1 ≤ 140737488355328 then some (fit a0 a1 a2) else none
set_option maxHeartbeats 400000 in
theorem fit_any (s : ByteArray) (width : Int) (right : Bool) (w : World) (hs : s.size ≤ 140737488355328) (hw : width ≤ 140737488355328) :
    Calls Tryd.prog 14 #[.string s, .int .i64 width, .bool right] w fun e w' => e = .returned (.string (fit s width right)) ∧ Below w.heap.size w w' := by
  by_cases h1 : width < 1
  · have e : fit s width right = ByteArray.empty := by unfold fit; rw [if_pos h1]
    rw [e]
    clear e
    go_enter Tryd.func14, Tryd.ntmps14
    go_wp2
    go_ret
    exact ⟨rfl, Below.refl _ _⟩
  · obtain ⟨n, rfl⟩ : ∃ n : Nat, width = (n : Int) := ⟨width.toNat, by omega⟩
    go_enter Tryd.func14, Tryd.ntmps14
    go_wp2
    go_loopw [7] (fun c wr => ∃ k : Nat, Hd (∀ j, j < k → posOf s j < s.size) ∧ k ≤ n ∧ wr = w.iter s (posOf s k) ∧ c = .int .i64 (k : Int)) (fun _ wr => s.size - wr.iterPos w.heap.size)
    case atStart => exact ⟨0, hd (fun j hj => by omega), by omega, rfl, rfl⟩
    case round =>
      obtain ⟨k, HK, hkn, rfl, rfl⟩ := hrel
      obtain ⟨p, hp⟩ : ∃ p, posOf s k = p := ⟨_, rfl⟩
      have HP := hd hp
      have hk : k ≤ p := by rw [← hp]; exact posOf_ge s k HK.out
      rw [hp]
      clear hp
      by_cases hlt : p < s.size
      · have hw1 := width_pos s p hlt
        have hnx : ∀ ty, (Instr.next (.pointer (some ⟨w.heap.size, 0, none⟩)) true ty).run Tryd.prog (w.iter s p) = _ := fun ty => run_next_any w s p ty hlt
        by_cases hkw : k = n
        · have hgt : n < wid s := wid_gt s n fun j hj => by
            by_cases e : j = n
            · subst e; rw [← hkw, HP.out]; exact hlt
            · exact HK.out j (by omega)
          have e : fit s n right = s.extract 0 p := by
            unfold fit
            rw [if_neg (by omega), if_pos (by omega), Int.toNat_natCast, ← hkw, HP.out]
          have HE := hd e
          clear e hgt
          have hkw' : (k : Int) = (n : Int) := by omega
          go_wp2
          go_ret
          rw [HE.out]
          exact ⟨rfl, below_alloc (Below.refl _ _) _⟩
        · have hkw' : ¬ (k : Int) = (n : Int) := by omega
          go_wp2
          go_roundw
          case rel => exact ⟨k + 1, hd (fun j hj => by
            by_cases e : j = k
            · subst e; rw [HP.out]; exact hlt
            · exact HK.out j (by omega)), by omega, by show _ = w.iter s (posOf s k + (Utf8.decode s (posOf s k)).2); rw [HP.out], by go_num⟩
          case measure => simp; omega
      · have hnx : ∀ ty, (Instr.next (.pointer (some ⟨w.heap.size, 0, none⟩)) true ty).run Tryd.prog (w.iter s p) = _ := fun ty => run_next_end w s p ty hlt
        have hwid : wid s = k := wid_is s k HK.out (by rw [HP.out]; exact hlt)
        have e : fit s n right = if right = true then blanks (n - k) ++ s else s ++ blanks (n - k) := by
          unfold fit
          rw [if_neg (by omega), if_neg (by omega), hwid, Int.toNat_natCast]
        have HE := hd e
        clear e hwid
        go_wp2_with fail
        have e2 : (n : Int) - (k : Int) = ((n - k : Nat) : Int) := by omega
        rw [e2]
        refine (repeat_any (n - k) _ (by omega)).mono ?_
        rintro e w2 ⟨rfl, hb2⟩
        have HB2 : Hd (Below w.heap.size w w2) := hd (below_then (below_alloc (Below.refl _ _) _) (by simp) hb2)
        clear hb2 e2
        have hbs : (blanks (n - k)).size ≤ 140737488355328 := by rw [blanks_size]; omega
        have hb1 : (blanks (n - k)).size + s.size ≤ 9223372036854775807 := by omega
        have hb2 : s.size + (blanks (n - k)).size ≤ 9223372036854775807 := by omega
        generalize blanks (n - k) = b at HE hb1 hb2 hbs ⊢
        cases right with
        | true =>
          go_wp2
          go_ret
          rw [HE.out]
          exact ⟨rfl, HB2.out⟩
        | false =>
          go_wp2
          go_ret
          rw [HE.out]
          exact ⟨rfl, HB2.out⟩
theorem table_Fit.calls (a0 : ByteArray) (a1 : Int) (a2 : Bool) (r : ByteArray) (w : World) (h : table_Fit.f a0 a1 a2 = some r) : Calls Tryd.prog 14 #[.string a0, .int .i64 a1, .bool a2] w fun e w' => e = .returned (.string r) ∧ Below w.heap.size w w' := by
  unfold table_Fit.f at h
  split at h
  · rename_i hc
    cases h
    exact fit_any a0 a1 a2 w hc.1 hc.2
  · cases h
end Go.Proofs.YthlbdbaanlehhaaDoor.Pr
