/-
  A request that was done is told its reply again, till its client says that it has it: in plain lists.
-/
import Derived.Test.YtafnjlgdjhegaaaShapeSessionKeeps
import Derived.Test.YtafnjlgdjhegaaaQ3
namespace Go.Proofs.Ytafnjlgdjhegaaa.Pure
open Go.RowKit Go.Proofs.Ytafnjlgdjhegaaa.Pr Go.Proofs.YtafnjlgdjhegaaaW.PrintWords Go.Proofs.YtafnjlgdjhegaaaW.PrintLast Go.Proofs.YtafnjlgdjhegaaaO
set_option linter.unusedVariables false
set_option linter.unusedSimpArgs false
theorem pick_tells (a : Int) (n : Int) (hn : 0 < n) (hn2 : n ≤ 2000000) (ha : (Lit.int .i64 a).wf = true) : ∃ r, musterlow_Pick.f a n = some r ∧ 0 ≤ r ∧ r < n := by
  unfold musterlow_Pick.f
  rw [if_neg (by omega), if_neg (by omega)]
  have h1 : Int.tmod a n < n := Int.tmod_lt_of_pos a hn
  have h2 : -n < Int.tmod a n := by
    rcases Int.le_total 0 a with h | h
    · have := Int.tmod_nonneg n h
      omega
    · have := Int.tmod_lt_of_pos (-a) hn
      rw [Int.neg_tmod] at this
      omega
  by_cases h : Int.tmod a n < 0
  · rw [if_pos h]
    refine ⟨_, rfl, ?_⟩
    have e : wrap64 (Int.tmod a n + n) = Int.tmod a n + n := by
      obtain ⟨m, hm⟩ : ∃ m, Int.tmod a n = m := ⟨_, rfl⟩
      rw [hm] at h h1 h2 ⊢
      unfold wrap64
      omega
    rw [e]
    omega
  · rw [if_neg h]
    exact ⟨_, rfl, by omega, h1⟩
/-- Looks that are asked rightly are told as the plain law has it. -/
theorem look_eq {l : List S44} {cl rq ak : Int} (hR : RightP l) (ha : lookArgs cl rq ak) : session_Look.f l cl rq ak = some (lookGood l cl rq ak) := by
  unfold session_Look.f
  rw [if_pos (by rw [hR.1, (lookArgs_iff _ _ _).2 ha]; rfl), if_pos ((small44_iff _).2 hR.2)]
theorem ids_i64 {l : List S44} (h : rightB l = true) : (l.map S44.f0).all i64B = true := by
  rw [List.all_eq_true]
  intro x hx
  have := rises_mem (right_len h).2.1 x hx
  rw [i64_iff]
  unfold i64
  omega
theorem done_eq {l : List S44} {cl rq : Int} {rep : List Int} (hR : RightP l) (hc : i64 cl) (hq : i64 rq) : session_Done.f l cl rq rep = some (donePure l cl rq rep) := by
  unfold session_Done.f doneFine
  rw [if_pos]
  rw [(small44_iff _).2 hR.2, ids_i64 hR.1, (i64_iff _).2 hc, (i64_iff _).2 hq]
  rfl
/-- What is kept of the client's request. -/
def Keeps (m : List S44) (cl rq : Int) (rep : List Int) : Prop := RightP m ∧ ∃ c ∈ m, c.f0 = cl ∧ c.f1 < rq ∧ (⟨rq, rep⟩ : S46) ∈ c.f2
theorem keeps_put {m n : List S44} {cl rq who : Int} {rep : List Int} {c' : S44} (h : Keeps m cl rq rep) (hr : RightP n) (hm : ∀ d, d ∈ n ↔ d = c' ∨ (d ∈ m ∧ d.f0 ≠ who)) (hn : c'.f0 = who)
    (hk : who = cl → c'.f1 < rq ∧ (⟨rq, rep⟩ : S46) ∈ c'.f2) : Keeps n cl rq rep := by
  obtain ⟨h1, c, hc, h2, h3, h4⟩ := h
  by_cases e : who = cl
  · obtain ⟨k1, k2⟩ := hk e
    exact ⟨hr, c', (hm c').2 (.inl rfl), by omega, k1, k2⟩
  · exact ⟨hr, c, (hm c).2 (.inr ⟨hc, by omega⟩), h2, h3, h4⟩
theorem pw44 {l : List S44} (h : RightP l) : (l.map S44.f0).Pairwise (· < ·) := rises_pw (right_len h.1).2.1
theorem cl_one {m : List S44} {c d : S44} {cl : Int} (h : RightP m) (hc : c ∈ m) (hcl : c.f0 = cl) (hd : Cl m cl d) : d = c := by
  rcases hd with ⟨h1, h2⟩ | ⟨h1, _⟩
  · exact one44 (pw44 h) h1 hc (by omega)
  · exact absurd hcl (h1 c hc)
theorem mx_cases (a b : Int) : (mx a b = a ∧ b ≤ a) ∨ (mx a b = b ∧ a ≤ b) := by
  unfold mx
  split <;> omega
theorem keeps_look {m : List S44} {cl rq who what known : Int} {rep : List Int} {c c' : S44} {r : List S44 × Int × List Int × Int} (h : Keeps m cl rq rep) (hL : Looked m who what known r c c') (hk : who = cl → known < rq) : Keeps r.1 cl rq rep := by
  refine keeps_put h hL.right hL.mem hL.num fun e => ?_
  obtain ⟨h1, d, hd, h2, h3, h4⟩ := h
  have hcd : c = d := cl_one h1 hd (by omega) hL.ofcl
  subst hcd
  have hf := hL.floor
  have := mx_cases c.f1 known
  have := hk e
  have hlt : c'.f1 < rq := by omega
  refine ⟨hlt, ?_⟩
  rw [hL.kept, List.mem_filter]
  exact ⟨h4, by simpa using hlt⟩
theorem keeps_done {m n : List S44} {cl rq who what : Int} {rep rep2 : List Int} {c c' : S44} (h : Keeps m cl rq rep) (hD : Doned m who what rep2 n c c') : Keeps n cl rq rep := by
  refine keeps_put h hD.right hD.mem hD.num fun e => ?_
  obtain ⟨h1, d, hd, h2, h3, h4⟩ := h
  have hcd : c = d := one44 (pw44 h1) hD.old hd (by rw [hD.ofcl]; omega)
  subst hcd
  rw [hD.floor]
  exact ⟨h3, (hD.kept _).2 (.inr h4)⟩
/-- Behind a look that is told NEW, Done is told OK. -/
theorem new_done {m : List S44} {who what known : Int} {rep : List Int} {r : List S44 × Int × List Int × Int} {c c' : S44} (hL : Looked m who what known r c c') (hw : what ≤ 4611686018427387904) (hn : r.2.1 = 1) (hr : rep.length ≤ 65536) :
    ∃ n d d', donePure r.1 who what rep = (n, 0) ∧ Doned r.1 who what rep n d d' := by
  have hc' : c' ∈ r.1 := (hL.mem c').2 (.inl rfl)
  rcases hL.tells with ⟨_, e⟩ | ⟨_, x, _, _, e⟩ | ⟨_, _, _, e⟩ | ⟨h1, h2, h3, e⟩
  · rw [e] at hn; cases hn
  · rw [e] at hn; cases hn
  · rw [e] at hn; cases hn
  · obtain ⟨n, d', e, hD⟩ := done_facts hL.right hc' hL.num h1 hw h2 h3 hr
    exact ⟨n, c', d', e, hD⟩
theorem awake_end : Ev (fun k => musterlaw09_awake.f.bind fun t => some t) true := Ev.now true
theorem wrap_small {x : Int} (h : 0 ≤ x) (h2 : x ≤ 4611686018427387904) : wrap64 x = x := by unfold wrap64; omega
theorem mod_nn {a b : Int} (ha : 0 ≤ a) (hb : 0 < b) : 0 ≤ Int.tmod a b ∧ Int.tmod a b < b := by
  rw [Int.tmod_eq_emod_of_nonneg ha]
  exact ⟨Int.emod_nonneg _ (by omega), Int.emod_lt_of_pos _ hb⟩
theorem div_nn {a b : Int} (ha : 0 ≤ a) (hb : 0 < b) : 0 ≤ Int.tdiv a b ∧ Int.tdiv a b ≤ a := by
  rw [Int.tdiv_eq_ediv_of_nonneg ha]
  exact ⟨Int.ediv_nonneg ha (by omega), Int.ediv_le_self _ ha⟩
theorem mn_le (a b : Int) : (mn a b = a ∨ mn a b = b) ∧ mn a b ≤ a ∧ mn a b ≤ b := by
  unfold mn
  split <;> omega
theorem looked_ok {l : List S44} {cl rq ak : Int} {r : List S44 × Int × List Int × Int} {c c' : S44} (h : Looked l cl rq ak r c c') : r.2.2.2 = 0 := by
  rcases h.tells with ⟨_, e⟩ | ⟨_, x, _, _, e⟩ | ⟨_, _, _, e⟩ | ⟨_, _, _, e⟩ <;> rw [e]
theorem same_self (l : List Int) : musterlow_SameBytes.f l l = some true := by unfold musterlow_SameBytes.f; rw [beq_self_eq_true]
/-- A client that is there: a look at it is told, and it is the one. -/
theorem look_there {cl : Int} {m : List S44} {c : S44} {q ak : Int} (hR : RightP m) (hc : c ∈ m) (h0 : c.f0 = cl) (ha : lookArgs cl q ak) : ∃ c', Looked m cl q ak (lookGood m cl q ak) c c' := by
  rcases look_facts hR ha with ⟨h, _⟩ | ⟨d, c', hL⟩
  · exact absurd h0 (h c hc)
  · have e : d = c := cl_one hR hc h0 hL.ofcl
    subst e
    exact ⟨c', hL⟩
section
variable {cl rq : Int} {rep others : List Int} (hcl : 1 ≤ cl ∧ cl ≤ 20) (hrq : 2 ≤ rq ∧ rq ≤ 1001)
include hcl hrq
theorem keeps_end {m : List S44} (h : Keeps m cl rq rep) (i : Int) (hi : others.length ≤ 9223372036854775807) : Ev (fun k => musterlaw09_SessionKeeps.j2 k cl rq rep others m i false) true := by
  obtain ⟨hR, c, hc, h0, h1, h2⟩ := h
  have hw := (right_len hR.1).2.2 c hc
  obtain ⟨k1, k2, k3, k4⟩ := wrong_iff.1 hw
  have ha : lookArgs cl rq 0 := ⟨by omega, by omega, by omega, by omega, by omega, by omega⟩
  obtain ⟨c', hL⟩ := look_there hR hc h0 ha
  have hf := hL.floor
  have hmx := mx_cases c.f1 0
  have hk : (⟨rq, rep⟩ : S46) ∈ c'.f2 := by
    rw [hL.kept, List.mem_filter]
    exact ⟨h2, by simp; omega⟩
  have hk4 := rises_pw (wrong_iff.1 hL.wrong).2.2.2
  have hr : (lookGood m cl rq 0).2 = (2, rep, 0) := by
    rcases hL.tells with ⟨g, _⟩ | ⟨_, x, hx, hx0, e⟩ | ⟨_, g, _⟩ | ⟨_, g, _⟩
    · omega
    · have := one46 hk4 hx hk hx0
      subst this
      exact e
    · exact absurd rfl (g _ hk)
    · exact absurd rfl (g _ hk)
  have ha2 : lookArgs cl (rq + 1) rq := ⟨by omega, by omega, by omega, by omega, by omega, by omega⟩
  obtain ⟨d', hL2⟩ := look_there hR hc h0 ha2
  have hf2 := hL2.floor
  have hmx2 := mx_cases c.f1 rq
  have hv : ((lookGood m cl (rq + 1) rq).2.1 == 3) = false := by
    rcases hL2.tells with ⟨g, _⟩ | ⟨_, x, _, _, e⟩ | ⟨_, _, _, e⟩ | ⟨_, _, _, e⟩
    · omega
    · rw [e]; rfl
    · rw [e]; rfl
    · rw [e]; rfl
  obtain ⟨z, hz⟩ : ∃ z, (lookGood m cl (rq + 1) rq).1 = z := ⟨_, rfl⟩
  have hRz : RightP z := by rw [← hz]; exact hL2.right
  have hdz : d' ∈ z := by rw [← hz]; exact (hL2.mem d').2 (.inl rfl)
  obtain ⟨e', hL3⟩ := look_there hRz hdz hL2.num ha
  have hf3 := hL3.floor
  have hmx3 := mx_cases d'.f1 0
  have hr3 : (lookGood z cl rq 0).2 = (3, [], 0) := by
    rcases hL3.tells with ⟨_, e⟩ | ⟨g, _⟩ | ⟨g, _⟩ | ⟨g, _⟩
    · exact e
    · omega
    · omega
    · omega
  refine Ev.step (f := fun k => musterlaw09_SessionKeeps.j4 k cl rq m false) (fun k => ?_) (Ev.step (f := fun k => musterlaw09_SessionKeeps.j5 k cl rq z false) (fun k => ?_) (Ev.step (fun k => ?_) awake_end))
  · simp only [musterlaw09_SessionKeeps.j2]
    rw [if_neg (by simp), look_eq hR ha]
    simp only [Option.bind_some, hr]
    rw [if_pos trivial, if_pos trivial, same_self]
    rfl
  · simp only [musterlaw09_SessionKeeps.j4]
    rw [if_neg (by simp), wrap_small (by omega) (by omega), look_eq hR ha2]
    simp only [Option.bind_some, looked_ok hL2, hv, hz]
    rw [if_pos trivial]
  · simp only [musterlaw09_SessionKeeps.j5]
    rw [if_neg (by simp), look_eq hRz ha]
    simp only [Option.bind_some, hr3]
    rw [if_pos trivial, if_pos trivial, if_pos (by simp)]
theorem keeps_loop (ho : others.length ≤ 9223372036854775807) (hwf : ∀ y ∈ others, (Lit.int .i64 y).wf = true) (d : Nat) : ∀ (i : Nat) (m : List S44), 20 - i = d → Keeps m cl rq rep → Ev (fun k => musterlaw09_SessionKeeps.l0 k cl rq rep others m i) true := by
  induction d with
  | zero =>
    intro i m hd hK
    refine Ev.step (f := fun k => musterlaw09_SessionKeeps.j2 k cl rq rep others m i false) (fun k => ?_) (keeps_end hcl hrq hK i ho)
    simp only [musterlaw09_SessionKeeps.l0]
    by_cases h : (i : Int) < (others.length : Int)
    · rw [if_pos h, decide_eq_false (by omega)]
    · rw [if_neg h]
  | succ d ih =>
    intro i m hd hK
    by_cases h : (i : Int) < (others.length : Int)
    · obtain ⟨n, hn, hn0, hn1⟩ := pick_tells (rd others i) 1000003 (by omega) (by omega) (by
        have e : rd others i = others[i]'(by omega) := by unfold rd; simp [List.getD_eq_getElem?_getD, show i < others.length by omega]
        rw [e]
        exact hwf _ (List.getElem_mem _))
      have t1 := mod_nn (a := n) (b := 20) hn0 (by omega)
      have t2 := div_nn (a := n) (b := 20) hn0 (by omega)
      have t3 := div_nn (a := n) (b := 24000) hn0 (by omega)
      have e2 : wrap64 (Int.tdiv n 20) = Int.tdiv n 20 := wrap_small t2.1 (by omega)
      have e3 : wrap64 (Int.tdiv n 24000) = Int.tdiv n 24000 := wrap_small t3.1 (by omega)
      have t4 := mod_nn (a := Int.tdiv n 20) (b := 1200) t2.1 (by omega)
      have e1 : wrap64 (1 + Int.tmod n 20) = 1 + Int.tmod n 20 := wrap_small (by omega) (by omega)
      have e4 : wrap64 (1 + Int.tmod (Int.tdiv n 20) 1200) = 1 + Int.tmod (Int.tdiv n 20) 1200 := wrap_small (by omega) (by omega)
      obtain ⟨who, hwho⟩ : ∃ who, 1 + Int.tmod n 20 = who := ⟨_, rfl⟩
      obtain ⟨what, hwhat⟩ : ∃ what, 1 + Int.tmod (Int.tdiv n 20) 1200 = what := ⟨_, rfl⟩
      rw [hwho] at e1
      rw [hwhat] at e4
      have t5 := mod_nn (a := Int.tdiv n 24000) (b := what) t3.1 (by omega)
      obtain ⟨kn, hkn⟩ : ∃ kn, Int.tmod (Int.tdiv n 24000) what = kn := ⟨_, rfl⟩
      rw [hkn] at t5
      have e5 : wrap64 (rq - 1) = rq - 1 := wrap_small (by omega) (by omega)
      obtain ⟨kk, hkk⟩ : ∃ kk, (if who = cl then mn kn (rq - 1) else kn) = kk := ⟨_, rfl⟩
      have hm := mn_le kn (rq - 1)
      have hkb : 0 ≤ kk ∧ kk < what ∧ (who = cl → kk < rq) := by
        rw [← hkk]
        split <;> omega
      have hR := hK.1
      have ha : lookArgs who what kk := ⟨by omega, by omega, by omega, by omega, by omega, by omega⟩
      have hnext : ∀ m', Keeps m' cl rq rep → Ev (fun k => musterlaw09_SessionKeeps.l0 k cl rq rep others m' (wrap64 ((i : Int) + 1))) true := fun m' h' => by
        rw [wrap_succ i (by omega)]
        exact ih (i + 1) m' (by omega) h'
      refine Ev.step (f := fun k => musterlaw09_SessionKeeps.j2 k cl rq rep others m i true) (fun k => ?_) (Ev.step (f := fun k => musterlaw09_SessionKeeps.j3 k cl rq rep others m i who what kk) (fun k => ?_) ?_)
      · simp only [musterlaw09_SessionKeeps.l0]
        rw [if_pos h, decide_eq_true (by omega)]
      · simp only [musterlaw09_SessionKeeps.j2]
        rw [if_pos trivial, if_pos (by omega), if_pos h, hn]
        simp only [Option.bind_some, e2, e3, hwho, hwhat, e1, e4, e5, hkn]
        rw [if_neg (by omega)]
        by_cases hw : who = cl
        · rw [if_pos hw] at hkk
          rw [if_pos hw, hkk]
        · rw [if_neg hw] at hkk
          rw [if_neg hw, hkk]
      · rcases look_facts hR ha with ⟨_, _, e⟩ | ⟨c, c', hL⟩
        · refine Ev.step (fun k => ?_) (hnext m hK)
          simp only [musterlaw09_SessionKeeps.j3]
          rw [look_eq hR ha, e]
          simp only [Option.bind_some]
          rw [if_neg (by omega)]
        · have hK2 : Keeps (lookGood m who what kk).1 cl rq rep := keeps_look hK hL hkb.2.2
          by_cases hv : (lookGood m who what kk).2.1 = 1
          · obtain ⟨n', d1, d1', e, hD⟩ := new_done (rep := []) hL (by omega) hv (by simp)
            refine Ev.step (fun k => ?_) (hnext n' (keeps_done hK2 hD))
            simp only [musterlaw09_SessionKeeps.j3]
            rw [look_eq hR ha]
            simp only [Option.bind_some]
            rw [if_pos (looked_ok hL), if_pos hv, done_eq hK2.1 ⟨by omega, by omega⟩ ⟨by omega, by omega⟩, e]
            simp only [Option.bind_some]
            rw [if_pos trivial]
          · refine Ev.step (fun k => ?_) (hnext _ hK2)
            simp only [musterlaw09_SessionKeeps.j3]
            rw [look_eq hR ha]
            simp only [Option.bind_some]
            rw [if_pos (looked_ok hL), if_neg hv]
    · refine Ev.step (f := fun k => musterlaw09_SessionKeeps.j2 k cl rq rep others m i false) (fun k => ?_) (keeps_end hcl hrq hK i ho)
      simp only [musterlaw09_SessionKeeps.l0]
      rw [if_neg h]
end
theorem small_of {l : List S44} (h : l.length * 40 ≤ 140737488351232 ∧ l.length ≤ 9223372036854775807 ∧ ∀ y ∈ l, opW44 y) : small44 l := by
  refine ⟨by omega, fun c hc => ?_⟩
  obtain ⟨_, _, h1, _, h2⟩ := h.2.2 c hc
  refine ⟨by omega, fun x hx => ?_⟩
  obtain ⟨_, h3, _⟩ := h2 x hx
  omega
theorem SessionKeeps : ∀ (l0 : List (S44)) (a1 : Int) (a2 : Int) (l3 : List Int) (l4 : List Int), (l0.length * 40 ≤ 140737488351232 ∧ l0.length ≤ 9223372036854775807 ∧ ∀ y ∈ l0, opW44 y) → (Lit.int .i64 a1).wf = true → (Lit.int .i64 a2).wf = true → (l3.length * 1 ≤ 140737488351232 ∧ l3.length ≤ 9223372036854775807 ∧ ∀ y ∈ l3, (Lit.int .u8 y).wf = true) → (l4.length * 8 ≤ 140737488351232 ∧ l4.length ≤ 9223372036854775807 ∧ ∀ y ∈ l4, (Lit.int .i64 y).wf = true) → ∃ k, musterlaw09_SessionKeeps.f k l0 a1 a2 l3 l4 = some true := by
  intro l0 a1 a2 l3 l4 h0 h1 h2 h3 h4
  obtain ⟨t1, ht1, u1, u2⟩ := pick_tells a1 20 (by omega) (by omega) h1
  obtain ⟨t2, ht2, u3, u4⟩ := pick_tells a2 1000 (by omega) (by omega) h2
  have e1 : wrap64 (1 + t1) = 1 + t1 := wrap_small (by omega) (by omega)
  have e2 : wrap64 (2 + t2) = 2 + t2 := wrap_small (by omega) (by omega)
  obtain ⟨cl, hcl⟩ : ∃ cl, 1 + t1 = cl := ⟨_, rfl⟩
  obtain ⟨rq, hrq⟩ : ∃ rq, 2 + t2 = rq := ⟨_, rfl⟩
  rw [hcl] at e1
  rw [hrq] at e2
  have ha : lookArgs cl rq 0 := ⟨by omega, by omega, by omega, by omega, by omega, by omega⟩
  refine Ev.rounds (r := true) ?_
  have hj : ∀ (m : List S44), Ev (fun k => musterlaw09_SessionKeeps.j0 k cl rq l3 l4 m true) true := fun m => by
    refine Ev.step (fun k => ?_) awake_end
    simp only [musterlaw09_SessionKeeps.j0]
    rw [if_pos trivial]
  by_cases hr : rightB l0 = true
  · have hR : RightP l0 := ⟨hr, small_of h0⟩
    rcases look_facts hR ha with ⟨_, _, e⟩ | ⟨c, c', hL⟩
    · refine Ev.congr (f := fun k => musterlaw09_SessionKeeps.j0 k cl rq l3 l4 [] true) (fun k => ?_) (hj _)
      unfold musterlaw09_SessionKeeps.f
      rw [ht1, ht2]
      simp only [Option.bind_some, hcl, hrq, e1, e2]
      rw [look_eq hR ha, e]
      simp only [Option.bind_some]
      rw [if_neg (by omega)]
    · by_cases hv : (lookGood l0 cl rq 0).2.1 = 1
      · by_cases hlen : (l3.length : Int) > 65536
        · refine Ev.congr (fun k => ?_) (hj (lookGood l0 cl rq 0).1)
          unfold musterlaw09_SessionKeeps.f
          rw [ht1, ht2]
          simp only [Option.bind_some, hcl, hrq, e1, e2]
          rw [look_eq hR ha]
          simp only [Option.bind_some]
          rw [if_pos (looked_ok hL), if_pos hv, decide_eq_true hlen]
        · obtain ⟨n', d1, d1', e, hD⟩ := new_done (rep := l3) hL (by omega) hv (by omega)
          have hK : Keeps n' cl rq l3 := by
            refine ⟨hD.right, d1', (hD.mem d1').2 (.inl rfl), hD.num, ?_, (hD.kept _).2 (.inl rfl)⟩
            have hd1 : d1 = c' := one44 (pw44 hL.right) hD.old ((hL.mem c').2 (.inl rfl)) (by rw [hD.ofcl, hL.num])
            rw [hD.floor, hd1]
            rcases hL.tells with ⟨_, e⟩ | ⟨g, _⟩ | ⟨g, _⟩ | ⟨g, _⟩
            · rw [e] at hv; cases hv
            · exact g
            · exact g
            · exact g
          refine Ev.congr (f := fun k => musterlaw09_SessionKeeps.j0 k cl rq l3 l4 (lookGood l0 cl rq 0).1 false) (fun k => ?_) (Ev.step (fun k => ?_) (keeps_loop (cl := cl) (rq := rq) ⟨by omega, by omega⟩ ⟨by omega, by omega⟩ h4.2.1 h4.2.2 20 0 n' (by omega) hK))
          · unfold musterlaw09_SessionKeeps.f
            rw [ht1, ht2]
            simp only [Option.bind_some, hcl, hrq, e1, e2]
            rw [look_eq hR ha]
            simp only [Option.bind_some]
            rw [if_pos (looked_ok hL), if_pos hv, decide_eq_false hlen]
          · simp only [musterlaw09_SessionKeeps.j0]
            rw [if_neg (by simp), done_eq hL.right ⟨by omega, by omega⟩ ⟨by omega, by omega⟩, e]
            simp only [Option.bind_some]
            rw [if_pos trivial]
            rfl
      · refine Ev.congr (fun k => ?_) (hj (lookGood l0 cl rq 0).1)
        unfold musterlaw09_SessionKeeps.f
        rw [ht1, ht2]
        simp only [Option.bind_some, hcl, hrq, e1, e2]
        rw [look_eq hR ha]
        simp only [Option.bind_some]
        rw [if_pos (looked_ok hL), if_neg hv]
  · refine Ev.congr (f := fun k => musterlaw09_SessionKeeps.j0 k cl rq l3 l4 [] true) (fun k => ?_) (hj _)
    unfold musterlaw09_SessionKeeps.f
    rw [ht1, ht2]
    simp only [Option.bind_some, hcl, hrq, e1, e2]
    unfold session_Look.f
    rw [if_neg (by simp [hr])]
    simp only [Option.bind_some]
    rw [if_neg (by omega)]
end Go.Proofs.Ytafnjlgdjhegaaa.Pure
