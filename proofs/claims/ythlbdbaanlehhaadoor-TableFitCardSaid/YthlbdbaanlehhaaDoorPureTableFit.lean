/-
  A text that fits is there whole, of a longer one its beginning: in plain lists.
-/
import Derived.Test.YthlbdbaanlehhaaDoorPr11
import Derived.Test.YthlbdbaanlehhaaDoorQ3
namespace Go.Proofs.YthlbdbaanlehhaaDoor.Pure
open Go.RowKit Go.Proofs.YthlbdbaanlehhaaDoor.Pr Go.Proofs.YthlbdbaanlehhaaDoorW.PrintWords Go.Proofs.YthlbdbaanlehhaaDoorW.PrintLast Go.Proofs.YthlbdbaanlehhaaDoor
set_option linter.unusedVariables false
theorem fit_eq (s : ByteArray) (w : Int) (r : Bool) (hs : s.size ≤ 140737488355328) (hw : w ≤ 140737488355328) : table_Fit.f s w r = some (fit s w r) := by unfold table_Fit.f; rw [if_pos ⟨hs, hw⟩]
theorem wid_eq (s : ByteArray) (hs : s.size ≤ 140737488355328) : table_Width.f s = some (wid s : Int) := by unfold table_Width.f; rw [if_pos (by omega)]
theorem bt_nat (s : ByteArray) (i : Nat) (h : i < s.size) : bt s (i : Int) = (s.data.toList.getD i 0).toNat := by
  unfold bt
  rw [dif_pos (by simpa using h)]
  have e : s.data.toList.getD i 0 = s[i]'h := by
    rw [List.getD_eq_getElem?_getD, List.getElem?_eq_getElem (by rw [size_list]; exact h)]
    rfl
  rw [e]
  simp
/-- The last loop: beside the text there are blanks alone. -/
theorem fit_loop (s f : ByteArray) (w : Int) (r : Bool) (at_ : Nat) (hf : f.size ≤ 281474976710656) (hat : at_ + s.size ≤ f.size) (hb : ∀ i, i < f.size → (i < at_ ∨ at_ + s.size ≤ i) → bt f (i : Int) = 32) (hfit : table_Fit.f f w (!r) = some f) (d : Nat) :
    ∀ i : Nat, f.size - i = d → i ≤ f.size → Ev (fun k => musterlaw31_TableFit.l0 k s w r f at_ i) true := by
  have hw1 : wrap64 ((at_ : Int) + (s.size : Int)) = (at_ : Int) + (s.size : Int) := wrap_id (by omega) (by omega)
  induction d with
  | zero =>
    intro i hd hi
    refine Ev.step (fun k => ?_) awake_end
    simp only [musterlaw31_TableFit.l0]
    rw [if_neg (by omega), hfit]
    simp only [Option.bind_some]
    rw [if_pos trivial]
  | succ d ih =>
    intro i hd hi
    have hn := ih (i + 1) (by omega) (by omega)
    have hw2 : wrap64 ((i : Int) + 1) = ((i + 1 : Nat) : Int) := by rw [wrap_id (by omega) (by omega)]; omega
    refine Ev.step (fun k => ?_) hn
    simp only [musterlaw31_TableFit.l0]
    rw [if_pos (by omega), hw1, hw2]
    by_cases h1 : i < at_
    · rw [if_pos (by omega), if_pos (by omega), if_pos (hb i (by omega) (.inl h1))]
    · rw [if_neg (by omega)]
      by_cases h2 : at_ + s.size ≤ i
      · rw [if_pos (by omega), if_pos (by omega), if_pos (hb i (by omega) (.inr h2))]
      · rw [if_neg (by omega)]
/-- The last steps, with the text at its place. -/
theorem fit_end (s f : ByteArray) (n c : Nat) (r : Bool) (at_ : Nat) (hfs : f.size = c + s.size) (hs : s.size ≤ 140737488351232) (hn : n ≤ 2000) (hc : n - wid s = c) (hwn : wid s ≤ n) (hat : at_ ≤ c) (hsub : (f.extract at_ (at_ + s.size)).data.toList = s.data.toList)
    (hb : ∀ i, i < f.size → (i < at_ ∨ at_ + s.size ≤ i) → bt f (i : Int) = 32) (hfit : table_Fit.f f n (!r) = some f) :
    Ev (fun k => musterlaw31_TableFit.j0 k s n r f (wid s) (wrap64 ((f.size : Int) - (s.size : Int))) at_) true := by
  have e1 : wrap64 ((f.size : Int) - (s.size : Int)) = (c : Int) := by rw [wrap_id (by omega) (by omega)]; omega
  have e2 : wrap64 ((n : Int) - (wid s : Int)) = (c : Int) := by rw [wrap_id (by omega) (by omega)]; omega
  have e3 : wrap64 ((at_ : Int) + (s.size : Int)) = ((at_ + s.size : Nat) : Int) := by rw [wrap_id (by omega) (by omega)]; omega
  refine Ev.step (f := fun k => musterlaw31_TableFit.j1 k s n r f at_ false) (fun k => ?_) (Ev.step (f := fun k => musterlaw31_TableFit.l0 k s n r f at_ 0) (fun k => ?_) (fit_loop s f n r at_ (by omega) (by omega) hb hfit _ 0 rfl (by omega)))
  · simp only [musterlaw31_TableFit.j0]
    rw [e1, e2, e3, if_pos rfl, if_pos (by omega), if_pos (by omega), if_pos (by omega), Int.toNat_natCast, Int.toNat_natCast]
    have e4 : ((f.extract at_ (at_ + s.size)).toList != s.toList) = false := by
      rw [ByteArray.toList_eq, ByteArray.toList_eq, hsub]
      simp
    rw [e4]
  · simp only [musterlaw31_TableFit.j1]
    rw [if_neg (by simp)]
theorem TableFit : musterlaw31_TableFit.Pure := by
  intro s w r hs hwf
  refine Ev.rounds (r := true) ?_
  by_cases h1 : w > 2000
  · refine Ev.congr (fun k => ?_) awake_end
    unfold musterlaw31_TableFit.f
    rw [if_pos h1]
  · have hfe := fit_eq s w r (by omega) (by omega)
    have hwe := wid_eq s (by omega)
    have hwl := wid_le s
    by_cases h2 : w < 1
    · refine Ev.congr (fun k => ?_) awake_end
      unfold musterlaw31_TableFit.f
      rw [if_neg h1, hfe, hwe]
      simp only [Option.bind_some]
      rw [if_pos h2, if_pos]
      unfold fit
      rw [if_pos h2, ByteArray.toList_eq]
      rfl
    · obtain ⟨n, rfl⟩ : ∃ n : Nat, w = (n : Int) := ⟨w.toNat, by omega⟩
      by_cases h3 : n < wid s
      · have hm := posOf_le s n (by omega)
        have hlt := wid_lt s n h3
        have hf : fit s n r = s.extract 0 (posOf s n) := by unfold fit; rw [if_neg h2, if_pos (by omega), Int.toNat_natCast]
        have hsz : (s.extract 0 (posOf s n)).size = posOf s n := cut_size s _ hm
        have hwc := wid_eq (s.extract 0 (posOf s n)) (by omega)
        rw [wid_cut s n (by omega)] at hwc
        refine Ev.congr (fun k => ?_) awake_end
        unfold musterlaw31_TableFit.f
        rw [if_neg h1, hfe, hwe, hf]
        simp only [Option.bind_some]
        rw [if_neg h2, if_pos (by omega), hsz, if_pos (by omega), if_pos (by omega), if_pos (by omega), if_pos (by rw [Int.toNat_natCast]), hwc]
        simp only [Option.bind_some]
        rw [if_pos (by omega)]
      · obtain ⟨c, hc⟩ : ∃ c, n - wid s = c := ⟨_, rfl⟩
        obtain ⟨f, hff⟩ : ∃ f, fit s n r = f := ⟨_, rfl⟩
        have hfit : f = if r = true then blanks c ++ s else s ++ blanks c := by rw [← hff]; unfold fit; rw [if_neg h2, if_neg (by omega), Int.toNat_natCast, hc]
        have hfs : f.size = c + s.size := by
          rw [hfit]
          split <;> rw [ByteArray.size_append, blanks_size]
          omega
        have hfw : wid f = n := by
          rw [hfit]
          split
          · rw [wid_before]; omega
          · rw [wid_after]; omega
        have hff2 : table_Fit.f f n (!r) = some f := by
          rw [fit_eq f n (!r) (by omega) (by omega)]
          unfold fit
          rw [if_neg h2, if_neg (by omega), hfw, Int.toNat_natCast, Nat.sub_self]
          have e : blanks 0 = ByteArray.empty := rfl
          rw [e]
          cases r <;> simp
        have hgo : ∀ at_ : Nat, (if r = true then c else 0) = at_ → Ev (fun k => musterlaw31_TableFit.j0 k s n r f (wid s) (wrap64 ((f.size : Int) - (s.size : Int))) at_) true := fun at_ ha => by
          have hl : f.data.toList = if r = true then List.replicate c 32 ++ s.data.toList else s.data.toList ++ List.replicate c 32 := by
            rw [hfit]
            split <;> rw [append_list, blanks_list]
          refine fit_end s f n c r at_ hfs hs (by omega) hc (by omega) (by rw [← ha]; split <;> omega) ?_ (fun i hi hor => ?_) hff2
          · rw [Lib.extract_data, hl, Nat.add_sub_cancel_left]
            cases r with
            | true =>
              rw [if_pos rfl] at ha ⊢
              rw [← ha, List.drop_left' (by simp), ← size_list, List.take_length]
            | false =>
              rw [if_neg (by simp)] at ha ⊢
              rw [← ha, List.drop_zero, ← size_list, List.take_left' rfl]
          · rw [bt_nat f i hi, hl]
            have hsl := size_list s
            cases r with
            | true =>
              rw [if_pos rfl] at ha ⊢
              have h : i < c := by omega
              rw [List.getD_eq_getElem?_getD, List.getElem?_append_left (by simpa using h), List.getElem?_replicate, if_pos h]
              rfl
            | false =>
              rw [if_neg (by simp)] at ha ⊢
              rw [List.getD_eq_getElem?_getD, List.getElem?_append_right (by omega), List.getElem?_replicate, if_pos (by omega)]
              rfl
        cases r with
        | true =>
          refine Ev.congr (fun k => ?_) (hgo c rfl)
          unfold musterlaw31_TableFit.f
          rw [if_neg h1, hfe, hwe, hff]
          simp only [Option.bind_some]
          rw [if_neg h2, if_neg (by omega), if_pos trivial]
          have e1 : wrap64 ((f.size : Int) - (s.size : Int)) = (c : Int) := by rw [wrap_id (by omega) (by omega)]; omega
          rw [e1]
        | false =>
          refine Ev.congr (fun k => ?_) (hgo 0 rfl)
          unfold musterlaw31_TableFit.f
          rw [if_neg h1, hfe, hwe, hff]
          simp only [Option.bind_some]
          rw [if_neg h2, if_neg (by omega), if_neg (by simp)]
          rfl
end Go.Proofs.YthlbdbaanlehhaaDoor.Pure
