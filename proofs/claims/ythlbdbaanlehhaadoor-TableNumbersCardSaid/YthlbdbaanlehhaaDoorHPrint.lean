/-
  nodeset.Print: a set's text, of any set.
-/
import Derived.Test.YthlbdbaanlehhaaDoorHTz
import Derived.Test.YthlbdbaanlehhaaDoorHJoin
namespace Go.Proofs.YthlbdbaanlehhaaDoor.Pr
open Go.RowKit Go.Proofs.YthlbdbaanlehhaaDoorW.PrintWords Go.Proofs.YthlbdbaanlehhaaDoorW.PrintLast Go.Proofs.YthlbdbaanlehhaaDoorW.PrintMore Go.Proofs.YthlbdbaanlehhaaDoorG Go.Proofs.YthlbdbaanlehhaaDoor
attribute [local go_sem] max2_int min2_int max_two min_two
set_option linter.unusedVariables false
set_option linter.unusedSimpArgs false
def decS (n : Nat) : ByteArray := ⟨(Lib.decDigits n).toArray⟩
def runText (a b : Nat) : ByteArray := if a < b then decS a ++ ((⟨#[45]⟩ : ByteArray) ++ decS b) else decS a
/-- How many nodes stand in one piece from place i on. -/
def runN (s i : Nat) : Nat := tzN 32 (4294967295 - s / 2 ^ i)
/-- The texts of the pieces, from place i on. -/
def runsF : Nat → Nat → Nat → List ByteArray
  | 0, _, _ => []
  | f + 1, s, i => if 32 ≤ i then [] else if runN s i = 0 then runsF f s (i + 1) else runText i (i + min (runN s i) (32 - i) - 1) :: runsF f s (i + min (runN s i) (32 - i))
theorem holdP {p} (h : Hd p) : p := h.out
theorem decS_size (n : Nat) (h : n < 100) : (decS n).size ≤ 2 := by
  have : ∀ n : Nat, n < 100 → (decS n).size ≤ 2 := by decide +kernel
  exact this n h
set_option maxRecDepth 100000 in
set_option maxHeartbeats 2000000 in
theorem tell_any (base b a c : Nat) (w0 w : World) (l : List ByteArray) (v : Value) (hb : w.heap[b]? = some (.cells #[v] 46 (0, 0))) (hR : Kd.R Kd.string 9 w base (fun _ => True) v l) (hbb : base ≤ b) (HB : Below base w0 w) (hbs : base ≤ w.heap.size) (ha : a < 100) (hc : c < 100) (hl : l.length ≤ 1000) :
    Calls Tryd.prog 41 #[.int .i64 (a : Int), .int .i64 (c : Int), .pointer (some ⟨b, 0, none⟩)] w fun e w' => e = .returned (.tuple #[]) ∧ ∃ v', w'.heap[b]? = some (.cells #[v'] 46 (0, 0)) ∧ Kd.R Kd.string 9 w' base (fun _ => True) v' (l ++ [runText a c]) ∧ Below base w0 w' := by
  have H1 := hd hb
  have HR := hd hR
  have HBB := hd HB
  obtain ⟨A0, c0, rfl⟩ := Kd.R_slice hR
  have c1 := (blk_cell hb 0).trans rfl
  have ha2 : (a : Int) < 100 := by omega
  have hc2 : (c : Int) < 100 := by omega
  have hsa := decS_size a ha
  have hsc := decS_size c hc
  have hL : ∀ n : Nat, n < 100 → Calls Tryd.prog 28 #[.int .i64 (n : Int)] w fun e w' => e = .returned (.string (decS n)) ∧ w' = w := fun n hn => Tryd.strconv_Itoa_small n hn w
  have HL := hd hL
  clear hb hR HB hL
  go_enter Tryd.func41, Tryd.ntmps41
  go_wp2_with fail
  refine (HL.out a ha).mono ?_
  rintro e w' ⟨rfl, rfl⟩
  by_cases hlt : a < c
  · have hlt2 : (a : Int) < (c : Int) := by omega
    have HRT := hd (show runText a c = decS a ++ ((⟨#[45]⟩ : ByteArray) ++ decS c) from if_pos hlt)
    go_wp2_with fail
    refine (HL.out c hc).mono ?_
    rintro e w2 ⟨rfl, rfl⟩
    go_wp2_with ((with_reducible refine gate_builtin (b := .append) (xs := #[.tmp 16, .tmp 18]) rfl ?_); at_builtin; refine holdP ?_)
    refine ⟨?_⟩
    have HR2 : Hd (Kd.R Kd.string 9 w2 base (fun _ => True) (.slice A0 l.length c0) l) := HR
    have hb2 : Below base w0 w2 := HBB.out
    have H2 : Hd (w2.heap[b]? = _) := H1
    refine Kd.R_append Kd.string (w0 := w0) base rfl (.tmp 16) (.tmp 18) 46 9 (.string ByteArray.empty) 16 rfl Tryd.underlying46 info9 rfl (by decide) (by omega) (.slice A0 l.length c0) l (decS a ++ ((⟨#[45]⟩ : ByteArray) ++ decS c)) [.string (decS a ++ ((⟨#[45]⟩ : ByteArray) ++ decS c))] (fun _ => True) (fun _ => False) rfl rfl rfl (fun _ hk => hk.elim) (fun _ _ => trivial) HR2.out hb2 hbs (by omega) ?_
    intro v1 w1 hv1 hb1 hg1 hat1
    have e1 : w1.heap[b]? = some (.cells #[.slice A0 l.length c0] 46 (0, 0)) := blk_grown H2.out hg1 (Kd.R_ne HR2.out H2.out (by decide))
    obtain ⟨A1, c1', rfl⟩ := Kd.R_slice hv1
    have q0 := (blk_cell e1 0).trans rfl
    have q1 := blk_frozen e1 0
    have HV := hd (Kd.R_set hv1 e1 (by decide) 0 (.slice A1 (l ++ [decS a ++ ((⟨#[45]⟩ : ByteArray) ++ decS c)]).length c1'))
    have HE := hd (blk_put (cs' := #[.slice A1 (l ++ [decS a ++ ((⟨#[45]⟩ : ByteArray) ++ decS c)]).length c1']) e1 0 (.slice A1 (l ++ [decS a ++ ((⟨#[45]⟩ : ByteArray) ++ decS c)]).length c1') rfl)
    have HW := hd (hb1.setCell (p := ⟨b, 0, none⟩) hbb (.slice A1 (l ++ [decS a ++ ((⟨#[45]⟩ : ByteArray) ++ decS c)]).length c1'))
    clear hv1 hb1 hg1 hat1 e1 c1
    generalize hL5 : (l ++ [decS a ++ ((⟨#[45]⟩ : ByteArray) ++ decS c)]).length = L5 at *
    go_wp2
    refine bodyPost_end (results_none rfl _ _ _) rfl ?_
    exact ⟨rfl, _, HE.out, by rw [HRT.out]; exact HV.out, HW.out⟩
  · have hlt2 : ¬ (a : Int) < (c : Int) := by omega
    have HRT := hd (show runText a c = decS a from if_neg hlt)
    go_wp2_with ((with_reducible refine gate_builtin (b := .append) (xs := #[.tmp 16, .tmp 18]) rfl ?_); at_builtin; refine holdP ?_)
    refine ⟨?_⟩
    have HR2 : Hd (Kd.R Kd.string 9 w' base (fun _ => True) (.slice A0 l.length c0) l) := HR
    have hb2 : Below base w0 w' := HBB.out
    have H2 : Hd (w'.heap[b]? = _) := H1
    refine Kd.R_append Kd.string (w0 := w0) base rfl (.tmp 16) (.tmp 18) 46 9 (.string ByteArray.empty) 16 rfl Tryd.underlying46 info9 rfl (by decide) (by omega) (.slice A0 l.length c0) l (decS a) [.string (decS a)] (fun _ => True) (fun _ => False) rfl rfl rfl (fun _ hk => hk.elim) (fun _ _ => trivial) HR2.out hb2 hbs (by omega) ?_
    intro v1 w1 hv1 hb1 hg1 hat1
    have e1 : w1.heap[b]? = some (.cells #[.slice A0 l.length c0] 46 (0, 0)) := blk_grown H2.out hg1 (Kd.R_ne HR2.out H2.out (by decide))
    obtain ⟨A1, c1', rfl⟩ := Kd.R_slice hv1
    have q0 := (blk_cell e1 0).trans rfl
    have q1 := blk_frozen e1 0
    have HV := hd (Kd.R_set hv1 e1 (by decide) 0 (.slice A1 (l ++ [decS a]).length c1'))
    have HE := hd (blk_put (cs' := #[.slice A1 (l ++ [decS a]).length c1']) e1 0 (.slice A1 (l ++ [decS a]).length c1') rfl)
    have HW := hd (hb1.setCell (p := ⟨b, 0, none⟩) hbb (.slice A1 (l ++ [decS a]).length c1'))
    clear hv1 hb1 hg1 hat1 e1 c1
    generalize hL5 : (l ++ [decS a]).length = L5 at *
    go_wp2
    refine bodyPost_end (results_none rfl _ _ _) rfl ?_
    exact ⟨rfl, _, HE.out, by rw [HRT.out]; exact HV.out, HW.out⟩
theorem not_run (q : Nat) (h : q < 4294967296) (W : World) : (Op.unary .xor (.int .u32 (q : Int))).run Tryd.prog W = .ok (.int .u32 ((4294967295 - q : Nat) : Int)) W := by
  have e : BitVec.ofInt 32 4294967295 = BitVec.allOnes 32 := by decide
  have e2 : ((BitVec.ofInt 32 4294967295 ^^^ BitVec.ofInt 32 (q : Int)).toNat : Int) = ((4294967295 - q : Nat) : Int) := by
    rw [e, BitVec.allOnes_xor, BitVec.toNat_not, BitVec.ofInt_natCast, BitVec.toNat_ofNat]
    omega
  have e3 : Op.unary .xor (.int .u32 (q : Int)) = (pure (.int .u32 (IntKind.u32.wrap ((BitVec.ofInt 32 4294967295 ^^^ BitVec.ofInt 32 (q : Int)).toNat : Int))) : Sem Value) := rfl
  rw [e3, e2, IntKind.wrap_u32, Sem.run_pure]
  congr 2
  omega
theorem tzN_le : ∀ (f x : Nat), tzN f x ≤ f
  | 0, _ => Nat.le_refl _
  | f + 1, x => by
    unfold tzN
    split
    · omega
    · have := tzN_le f (x / 2)
      omega
theorem join_len (sep : List UInt8) (m : Nat) : ∀ xs : List (List UInt8), (∀ x ∈ xs, x.length ≤ m) → (Lib.join xs sep).length ≤ xs.length * (m + sep.length)
  | [], _ => by simp [Lib.join]
  | [x], h => by
    have := h x (by simp)
    simp [Lib.join, List.intercalate]
    omega
  | x :: y :: r, h => by
    have h1 := h x (by simp)
    have ih := join_len sep m (y :: r) (fun z hz => h z (by simp [hz]))
    have e : Lib.join (x :: y :: r) sep = x ++ (sep ++ Lib.join (y :: r) sep) := by simp [Lib.join, List.intercalate, List.intersperse]
    rw [e, List.length_append, List.length_append, List.length_cons, Nat.add_mul]
    omega
theorem joinB_small (l : List ByteArray) (hl : l.length ≤ 33) (h : ∀ x ∈ l, x.size ≤ 5) : strings_Join.f l ⟨#[44]⟩ = some (joinB l ⟨#[44]⟩) := by
  unfold strings_Join.f
  refine if_pos ⟨by omega, ?_⟩
  have := join_len [44] 5 (l.map (·.data.toList)) (fun x hx => by
    obtain ⟨b, hb, rfl⟩ := List.mem_map.1 hx
    exact h b hb)
  show (Lib.join (l.map (·.data.toList)) [44]).toArray.size ≤ _
  rw [List.size_toArray]
  rw [List.length_map] at this
  simp only [List.length_cons, List.length_nil] at this
  omega
theorem runText_size (a b : Nat) (ha : a < 100) (hb : b < 100) : (runText a b).size ≤ 5 := by
  have h1 := decS_size a ha
  have h2 := decS_size b hb
  unfold runText
  split
  · rw [ByteArray.size_append, ByteArray.size_append]
    show (decS a).size + (1 + (decS b).size) ≤ 5
    omega
  · omega
def printB (s : Nat) : ByteArray := if s = 0 then ⟨#[110, 111, 110, 101]⟩ else joinB (runsF 33 s 0) ⟨#[44]⟩
set_option maxRecDepth 100000 in
set_option maxHeartbeats 2000000 in
theorem print_walk (s : Nat) (hs : (s : Int) < 4294967296) (w : World) (tab_ : Tabs w) : Calls Tryd.prog 29 #[.int .u32 (s : Int)] w fun e w' => e = .returned (.string (printB s)) ∧ Below w.heap.size w w' := by
  have HT := hd tab_
  clear tab_
  by_cases h0 : s = 0
  · subst h0
    go_enter Tryd.func29, Tryd.ntmps29
    go_wp2
    go_ret
    exact ⟨rfl, Below.refl _ _⟩
  · have hne : ((s : Int) == 0) = false := by simpa using h0
    have HPB := hd (show printB s = joinB (runsF 33 s 0) ⟨#[44]⟩ from if_neg h0)
    obtain ⟨base, hbase⟩ : ∃ n, w.heap.size = n := ⟨_, rfl⟩
    have HBASE := hd hbase
    clear hbase
    go_enter Tryd.func29, Tryd.ntmps29
    go_wp2_with ((with_reducible refine gate_dst (N := 3) rfl ?_); refine box_event ?hg (N := 3) ?hd (cs := #[.slice none 0 0]) (t := 46) ?hr ?_; (case hd => rfl); (case hg => rfl); (case hr => first | (go_simp; done) | (go_simp; rfl)); intro g hg_ w1 hbox_ b_; have HX := hd hbox_; have HGB : Hd (base ≤ g) := hd (by rw [← HBASE.out]; omega); have HB : Hd (Below base w w1) := hd (by rw [← HBASE.out]; exact b_); clear hg_ hbox_ b_; refine holdP ?_)
    refine ⟨?_⟩
    have HR : Hd (Kd.R Kd.string 9 w1 base (fun _ => True) (.slice none 0 0) []) := hd (Kd.R_nil _ _ _ _ _)
    go_wp2
    go_loopw [5] (fun iv wr => ∃ (i f : Nat) (v : Value) (done : List ByteArray), i ≤ 32 ∧ iv = .int .i64 (i : Int) ∧ Hd (33 ≤ f + i) ∧ Hd (done ++ runsF f s i = runsF 33 s 0) ∧ Hd (done.length ≤ i) ∧ Hd (∀ x ∈ done, x.size ≤ 5) ∧ Hd (wr.heap[g]? = some (.cells #[v] 46 (0, 0))) ∧ Hd (Kd.R Kd.string 9 wr base (fun _ => True) v done) ∧ Hd (Below base w wr)) (fun iv _ => 32 - (intOf iv).toNat)
    case atStart => exact ⟨0, 33, _, [], by omega, rfl, hd (by omega), hd rfl, hd (Nat.le_refl _), hd (fun x hx => by cases hx), HX, HR, HB⟩
    clear HX HR HB
    case round =>
      obtain ⟨i, f, v, done, hi, rfl, HF, HD, HLN, HSZ, HX, HR, HB⟩ := hrel
      by_cases hlt : i < 32
      · have hi1 : (i : Int) < 32 := by omega
        have HTW : Hd (Tabs wr) := hd (HT.out.below (by rw [HBASE.out]; exact HB.out))
        obtain ⟨q, hqq⟩ : ∃ q, s / 2 ^ i = q := ⟨_, rfl⟩
        have hq : (s : Int) / 2 ^ i = (q : Int) := by
          rw [← hqq]
          simp
        have hq2 : (q : Int) < 4294967296 := by
          rw [← hqq]
          have : s / 2 ^ i ≤ s := Nat.div_le_self _ _
          omega
        have HQ := hd hqq
        clear hqq
        go_wp2_with ((with_reducible refine gate_dst (N := 15) rfl ?_); refine Kd.event_run (w1 := wr) (v := .int .u32 ((4294967295 - q : Nat) : Int)) rfl (by have h_ := not_run q (by omega) wr; unfold execOp; simp [Act.eval, h_]) ?_; refine holdP ?_)
        refine ⟨?_⟩
        have HTZ := hd (tz_any (4294967295 - q) (by omega) wr HTW.out)
        have htl := tzN_le 32 (4294967295 - q)
        have HRN : Hd (runN s i = tzN 32 (4294967295 - q)) := hd (by unfold runN; rw [HQ.out])
        generalize tzN 32 (4294967295 - q) = t at HTZ htl HRN
        generalize 4294967295 - q = y at HTZ ⊢
        clear hq hq2
        go_wp2_with fail
        refine HTZ.out.mono ?_
        rintro e w2 ⟨rfl, b_⟩
        have hbs : base ≤ wr.heap.size := by have := HB.out.size; have := HBASE.out; omega
        replace HX := hd (blk_below HX.out b_)
        replace HR := hd (Kd.R_below HR.out b_)
        replace HB := hd (below_then HB.out hbs b_)
        have hbs2 : base ≤ w2.heap.size := Nat.le_trans hbs b_.size
        clear HTZ HTW b_ HQ
        obtain ⟨f, rfl⟩ : ∃ f', f = f' + 1 := ⟨f - 1, by have := HF.out; omega⟩
        have HUN : Hd (runsF (f + 1) s i = if t = 0 then runsF f s (i + 1) else runText i (i + min t (32 - i) - 1) :: runsF f s (i + min t (32 - i))) := hd (by rw [runsF, if_neg (by omega), HRN.out])
        clear HRN
        by_cases ht0 : t = 0
        · subst ht0
          go_wp2
          go_roundw
          case rel => exact ⟨i + 1, f, v, done, by omega, by go_num, hd (by have := HF.out; omega), hd (by rw [← HD.out, HUN.out]; rfl), hd (by have := HLN.out; omega), HSZ, HX, HR, HB⟩
          case measure => simp [intOf]; omega
        · have hne2 : ((t : Int) == 0) = false := by simpa using ht0
          obtain ⟨m, hm⟩ : ∃ m, min t (32 - i) = m := ⟨_, rfl⟩
          have hm1 : 1 ≤ m ∧ i + m ≤ 32 := by omega
          have hmi : (if (32 - (i : Int)) < (t : Int) then 32 - (i : Int) else (t : Int)) = (m : Int) := by split <;> omega
          have hmr : (m : Int) ≤ 32 := by omega
          have HM := hd hm
          clear hm
          have he : (i : Int) + (m : Int) - 1 = ((i + m - 1 : Nat) : Int) := by omega
          have htp : (t : Int) ≤ 32 := by omega
          go_wp2_with fail
          refine (tell_any base g i (i + m - 1) w w2 done v HX.out HR.out HGB.out HB.out hbs2 (by omega) (by omega) (by have := HLN.out; omega)).mono ?_
          rintro e w3 ⟨rfl, v', hX', hR', hB'⟩
          have HX' := hd hX'
          have HR' := hd hR'
          have HB' := hd hB'
          have HNZ := hd ht0
          clear hX' hR' hB' HX HR HB he hmi
          go_wp2
          go_roundw
          case rel => exact ⟨i + m, f, v', done ++ [runText i (i + m - 1)], by omega, by go_num, hd (by have := HF.out; omega), hd (by rw [← HD.out, HUN.out, if_neg HNZ.out, HM.out, List.append_assoc]; rfl), hd (by have := HLN.out; rw [List.length_append]; simp; omega), hd (fun x hx => by
            rcases List.mem_append.1 hx with hx | hx
            · exact HSZ.out x hx
            · rw [List.mem_singleton] at hx
              subst hx
              exact runText_size _ _ (by omega) (by omega)), HX', HR', HB'⟩
          case measure => simp [intOf]; omega
      · have hii : i = 32 := by omega
        subst hii
        have hdn : runsF 33 s 0 = done := by
          rw [← HD.out]
          cases f with
          | zero => simp [runsF]
          | succ f => simp [runsF]
        have HJ := hd (joinB_small done (by have := HLN.out; omega) HSZ.out)
        have c1 := (blk_cell HX.out 0).trans rfl
        obtain ⟨A1, c1', rfl, hc1, hC1⟩ := Kd.R_reads HR.out
        have HPJ : Hd (printB s = joinB done ⟨#[44]⟩) := hd (HPB.out.trans (by rw [hdn]))
        go_wp2_with fail
        refine (strings_Join.calls A1 c1' done ⟨#[44]⟩ _ wr hC1 hc1 HJ.out).mono ?_
        rintro e w3 ⟨rfl, b_⟩
        have hbs : base ≤ wr.heap.size := by have := HB.out.size; have := HBASE.out; omega
        replace HB := hd (below_then HB.out hbs b_)
        clear c1 hC1 hc1 b_
        go_wp2
        go_ret
        exact ⟨by rw [HPJ.out]; rfl, by rw [HBASE.out]; exact HB.out⟩
def nodeset_Print.f (a0 : Int) : Option ByteArray := if (decide (0 ≤ a0) && decide (a0 < 4294967296)) = true then some (printB a0.toNat) else none
theorem nodeset_Print.calls (a0 : Int) (r : ByteArray) (w : World) (tab_ : Tabs w) (h : nodeset_Print.f a0 = some r) : Calls Tryd.prog 29 #[.int .u32 a0] w fun e w' => e = .returned (.string r) ∧ Below w.heap.size w w' := by
  unfold nodeset_Print.f at h
  by_cases hc : (decide (0 ≤ a0) && decide (a0 < 4294967296)) = true
  · rw [if_pos hc] at h
    cases h
    simp only [Bool.and_eq_true, decide_eq_true_eq] at hc
    have := print_walk a0.toNat (by omega) w tab_
    rwa [show ((a0.toNat : Nat) : Int) = a0 by omega] at this
  · rw [if_neg hc] at h
    cases h
end Go.Proofs.YthlbdbaanlehhaaDoor.Pr
