/-
  Texts of this session, laid together by wip/tools/merge.py: QOnce, QOnce2.
-/
import Derived.Test.YtafnjlgdjhegaaaQ3
import Derived.Test.YtafnjlgdjhegaaaHTake
section
namespace Go.Proofs.Ytafnjlgdjhegaaa.Pr
open Go.RowKit Go.Proofs.YtafnjlgdjhegaaaW.PrintWords
set_option linter.unusedVariables false
set_option linter.unusedSimpArgs false
structure Ak where
  id : Int
  nx : Int
  ak : Int
  ws : List S70
structure Ws where
  l : List S44
  a : Nat → Ak
  tos : List (Int × Int × Int)
  bks : List (Int × Int × Int)
  did : Nat → Int → Int
  got : Nat → Int → Int
  ctr : Int
def put2 (f : Nat → Int → Int) (k : Nat) (r v : Int) : Nat → Int → Int := fun k' r' => if k' = k ∧ r' = r then v else f k' r'
/-- A client, its asker, its row at the server. -/
structure InvC (s : Ws) (k : Nat) (c : S44) : Prop where
  cl : Cl s.l ((k : Int) + 1) c
  idk : (s.a k).id = (k : Int) + 1
  asker : askerB (s.a k).id (s.a k).nx (s.a k).ak (s.a k).ws = true
  fl0 : 0 ≤ c.f1
  fl : c.f1 ≤ (s.a k).ak
  kept : ∀ x ∈ c.f2, x.f0 ≤ c.f1 + 8 ∧ s.did k x.f0 ≠ 0 ∧ x.f1 = [0, s.did k x.f0]
  dn : ∀ r, s.did k r ≠ 0 → (∃ x ∈ c.f2, x.f0 = r) ∨ r ≤ c.f1
  fi : ∀ r, s.got k r ≠ 0 ↔ (1 ≤ r ∧ r < (s.a k).nx ∧ ∀ x ∈ (s.a k).ws, x.f0 ≠ r)
  fd : ∀ r, s.got k r ≠ 0 → s.got k r = s.did k r
  rg : ∀ r, s.did k r ≠ 0 → 1 ≤ s.did k r ∧ s.did k r ≤ s.ctr
def okTo (s : Ws) (p : Int × Int × Int) : Prop := ∃ k : Nat, k < 4 ∧ p.1 = (k : Int) + 1 ∧ 0 ≤ p.2.2 ∧ p.2.2 < p.2.1 ∧ p.2.1 ≤ p.2.2 + 8 ∧ p.2.2 ≤ (s.a k).ak ∧ p.2.1 < (s.a k).nx
def okBack (s : Ws) (p : Int × Int × Int) : Prop := ∃ k : Nat, k < 4 ∧ p.1 = (k : Int) + 1 ∧ 1 ≤ p.2.1 ∧ p.2.1 < (s.a k).nx ∧ p.2.2 = s.did k p.2.1 ∧ s.did k p.2.1 ≠ 0
structure InvO (s : Ws) (n : Int) : Prop where
  right : RightP s.l
  ids : ∀ d ∈ s.l, 1 ≤ d.f0 ∧ d.f0 ≤ 4
  each : ∀ k, k < 4 → ∃ c, InvC s k c
  nxs : ∀ k, k < 4 → (s.a k).nx ≤ n + 1
  cn0 : 0 ≤ s.ctr
  cn : s.ctr ≤ n
  tok : ∀ p ∈ s.tos, okTo s p
  bok : ∀ p ∈ s.bks, okBack s p
theorem few_rise : ∀ (T : List Int) (a b : Int), rises a T = true → (∀ x ∈ T, x ≤ b) → a ≤ b → (T.length : Int) ≤ b - a
  | [], a, b, _, _, h => by simp; omega
  | x :: T, a, b, h, hb, hab => by
    simp only [rises, Bool.and_eq_true, Bool.not_eq_true', decide_eq_false_iff_not] at h
    have h1 := hb x (by simp)
    have := few_rise T x b h.2 (fun y hy => hb y (by simp [hy])) h1
    simp only [List.length_cons]
    omega
theorem look_ok {s : Ws} {n : Int} (h : InvO s n) (hn : n ≤ 200) {p : Int × Int × Int} (hp : okTo s p) : lookArgs p.1 p.2.1 p.2.2 ∧ ∃ c c', Looked s.l p.1 p.2.1 p.2.2 (lookGood s.l p.1 p.2.1 p.2.2) c c' := by
  obtain ⟨k, hk, h1, h2, h3, h4, h5, h6⟩ := hp
  have hnx := h.nxs k hk
  have ha : lookArgs p.1 p.2.1 p.2.2 := ⟨by omega, by omega, by omega, by omega, h2, h3⟩
  refine ⟨ha, ?_⟩
  rcases look_facts h.right ha with ⟨_, h7, _⟩ | h7
  · have hl := few_rise (s.l.map S44.f0) 0 4 (right_len h.right.1).2.1 (fun x hx => by obtain ⟨d, hd, rfl⟩ := List.mem_map.1 hx; exact (h.ids d hd).2) (by omega)
    rw [List.length_map] at hl
    omega
  · exact h7
theorem few_gap : ∀ (T : List Int) (a b q : Int), rises a T = true → (∀ x ∈ T, x ≤ b) → (∀ x ∈ T, x ≠ q) → a < q → q ≤ b → (T.length : Int) ≤ b - a - 1
  | [], a, b, q, _, _, _, h1, h2 => by simp; omega
  | x :: T, a, b, q, h, hb, hq, h1, h2 => by
    simp only [rises, Bool.and_eq_true, Bool.not_eq_true', decide_eq_false_iff_not] at h
    have hx := hb x (by simp)
    have hxq := hq x (by simp)
    simp only [List.length_cons]
    by_cases hlt : x < q
    · have := few_gap T x b q h.2 (fun y hy => hb y (by simp [hy])) (fun y hy => hq y (by simp [hy])) hlt h2
      omega
    · have := few_rise T x b h.2 (fun y hy => hb y (by simp [hy])) hx
      omega
theorem mx_two (a b : Int) : (mx a b = a ∧ b ≤ a) ∨ (mx a b = b ∧ a ≤ b) := by
  unfold mx
  split <;> omega
theorem cl_uniq {l : List S44} {cl : Int} {c d : S44} (h : RightP l) (hc : Cl l cl c) (hd : Cl l cl d) : c = d := by
  have hp := rises_pw (right_len h.1).2.1
  rcases hc with ⟨h1, h2⟩ | ⟨h1, h2⟩ <;> rcases hd with ⟨h3, h4⟩ | ⟨h3, h4⟩
  · exact one44 hp h1 h3 (h2.trans h4.symm)
  · exact absurd h2 (h3 c h1)
  · exact absurd h4 (h1 d h3)
  · rw [h2, h4]
theorem cl_other {l m : List S44} {cl q : Int} {c c' : S44} (hm : ∀ d, d ∈ m ↔ d = c' ∨ (d ∈ l ∧ d.f0 ≠ cl)) (hn : c'.f0 = cl) (hq : q ≠ cl) (h : Cl l q c) : Cl m q c := by
  rcases h with ⟨h1, h2⟩ | ⟨h1, h2⟩
  · exact Or.inl ⟨(hm c).2 (Or.inr ⟨h1, by omega⟩), h2⟩
  · refine Or.inr ⟨fun d hd => ?_, h2⟩
    rcases (hm d).1 hd with rfl | ⟨h3, _⟩
    · omega
    · exact h1 d h3
theorem ack_lt {id nx ak : Int} {ws : List S70} (h : askerB id nx ak ws = true) : ∀ x ∈ ws, ak < x.f0 := by
  have hr := (asker_parts h).2
  have he : ak = ackP nx ws := by
    unfold askerB at h
    simp only [Bool.and_eq_true, decide_eq_true_eq] at h
    exact h.1.2
  cases ws with
  | nil => intro x hx; cases hx
  | cons y ws =>
    intro x hx
    have hy : ak = y.f0 - 1 := he
    rcases List.mem_cons.1 hx with rfl | hx
    · omega
    · simp only [List.map_cons, rises, Bool.and_eq_true] at hr
      have := rises_mem hr.2 x.f0 (List.mem_map.2 ⟨x, hx, rfl⟩)
      omega
theorem inv_looked {s : Ws} {n : Int} (h : InvO s n) {k : Nat} (hk : k < 4) {rq ak : Int} {r : List S44 × Int × List Int × Int} {c c' : S44} (hL : Looked s.l ((k : Int) + 1) rq ak r c c') (h0 : 0 ≤ ak) (h1 : ak ≤ (s.a k).ak) :
    InvO { s with l := r.1 } n ∧ InvC { s with l := r.1 } k c' := by
  have hc' : InvC { s with l := r.1 } k c' := by
    obtain ⟨d, hd⟩ := h.each k hk
    have e := cl_uniq h.right hL.ofcl hd.cl
    subst e
    have hmx := mx_two c.f1 ak
    have hf := hL.floor
    have hd0 := hd.fl0
    have hd1 := hd.fl
    refine ⟨Or.inl ⟨(hL.mem c').2 (Or.inl rfl), hL.num⟩, hd.idk, hd.asker, by omega, ?_, fun x hx => ?_, fun q hq => ?_, hd.fi, hd.fd, hd.rg⟩
    · show c'.f1 ≤ (s.a k).ak
      omega
    · rw [hL.kept, List.mem_filter] at hx
      obtain ⟨h2, h3, h4⟩ := hd.kept x hx.1
      exact ⟨by omega, h3, h4⟩
    · rcases hd.dn q hq with ⟨x, hx, hxq⟩ | h2
      · by_cases hlt : c'.f1 < q
        · refine Or.inl ⟨x, ?_, hxq⟩
          rw [hL.kept, List.mem_filter]
          exact ⟨hx, by simpa [hxq] using hlt⟩
        · exact Or.inr (by omega)
      · exact Or.inr (by omega)
  refine ⟨⟨hL.right, fun d hd => ?_, fun j hj => ?_, h.nxs, h.cn0, h.cn, h.tok, h.bok⟩, hc'⟩
  · rcases (hL.mem d).1 hd with rfl | ⟨h2, _⟩
    · have := hL.num
      omega
    · exact h.ids d h2
  · by_cases hjk : j = k
    · subst hjk
      exact ⟨c', hc'⟩
    · obtain ⟨d, hd⟩ := h.each j hj
      exact ⟨d, cl_other hL.mem hL.num (by omega) hd.cl, hd.idk, hd.asker, hd.fl0, hd.fl, hd.kept, hd.dn, hd.fi, hd.fd, hd.rg⟩
theorem inv_doned {s : Ws} {n : Int} (h : InvO s n) {k : Nat} (hk : k < 4) {rq ak : Int} {m : List S44} {c c' : S44} (hc : InvC s k c) (hD : Doned s.l ((k : Int) + 1) rq [0, s.ctr + 1] m c c')
    (h1 : rq ≤ c.f1 + 8) (h2 : c.f1 < rq) (h3 : s.did k rq = 0) (h4 : rq < (s.a k).nx) :
    InvO { s with l := m, did := put2 s.did k rq (s.ctr + 1), bks := s.bks ++ [((k : Int) + 1, rq, s.ctr + 1)], ctr := s.ctr + 1 } (n + 1) := by
  have hctr := h.cn0
  have hcn := h.cn
  have hp1 : put2 s.did k rq (s.ctr + 1) k rq = s.ctr + 1 := by simp [put2]
  have hp2 : ∀ j q, ¬ (j = k ∧ q = rq) → put2 s.did k rq (s.ctr + 1) j q = s.did j q := fun j q hh => by simp [put2, hh]
  have hfl := hD.floor
  have hc0 := hc.fl0
  have hc1 := hc.fl
  have hc' : InvC { s with l := m, did := put2 s.did k rq (s.ctr + 1), bks := s.bks ++ [((k : Int) + 1, rq, s.ctr + 1)], ctr := s.ctr + 1 } k c' := by
    refine ⟨Or.inl ⟨(hD.mem c').2 (Or.inl rfl), hD.num⟩, hc.idk, hc.asker, by omega, ?_, fun x hx => ?_, fun q hq => ?_, hc.fi, fun q hq => ?_, fun q hq => ?_⟩
    · show c'.f1 ≤ (s.a k).ak
      omega
    · show x.f0 ≤ c'.f1 + 8 ∧ put2 s.did k rq (s.ctr + 1) k x.f0 ≠ 0 ∧ x.f1 = [0, put2 s.did k rq (s.ctr + 1) k x.f0]
      rcases (hD.kept x).1 hx with rfl | hx
      · refine ⟨by show rq ≤ _; omega, ?_, ?_⟩
        · show put2 s.did k rq (s.ctr + 1) k rq ≠ 0
          rw [hp1]
          omega
        · show [0, s.ctr + 1] = [0, put2 s.did k rq (s.ctr + 1) k rq]
          rw [hp1]
      · obtain ⟨h5, h6, h7⟩ := hc.kept x hx
        have hne : x.f0 ≠ rq := fun e => h6 (by rw [e]; exact h3)
        rw [hp2 k x.f0 (fun e => hne e.2)]
        exact ⟨by omega, h6, h7⟩
    · by_cases hqr : q = rq
      · exact Or.inl ⟨⟨rq, [0, s.ctr + 1]⟩, (hD.kept _).2 (Or.inl rfl), hqr.symm⟩
      · have hq' : s.did k q ≠ 0 := by
          have := hp2 k q (fun e => hqr e.2)
          rw [← this]
          exact hq
        rcases hc.dn q hq' with ⟨x, hx, hxq⟩ | h5
        · exact Or.inl ⟨x, (hD.kept x).2 (Or.inr hx), hxq⟩
        · exact Or.inr (by omega)
    · have h5 := hc.fd q hq
      by_cases hqr : q = rq
      · subst hqr
        rw [h3] at h5
        exact absurd h5 hq
      · show s.got k q = put2 s.did k rq (s.ctr + 1) k q
        rw [hp2 k q (fun e => hqr e.2)]
        exact h5
    · show 1 ≤ put2 s.did k rq (s.ctr + 1) k q ∧ put2 s.did k rq (s.ctr + 1) k q ≤ s.ctr + 1
      by_cases hqr : q = rq
      · subst hqr
        rw [hp1]
        omega
      · have e := hp2 k q (fun e => hqr e.2)
        have hq' : s.did k q ≠ 0 := by rw [← e]; exact hq
        have := hc.rg q hq'
        rw [e]
        omega
  refine ⟨hD.right, fun d hd => ?_, fun j hj => ?_, fun j hj => ?_, by show 0 ≤ s.ctr + 1; omega, by show s.ctr + 1 ≤ n + 1; omega, h.tok, fun p hp => ?_⟩
  · rcases (hD.mem d).1 hd with rfl | ⟨h5, _⟩
    · have := hD.num
      omega
    · exact h.ids d h5
  · by_cases hjk : j = k
    · subst hjk
      exact ⟨c', hc'⟩
    · obtain ⟨d, hd⟩ := h.each j hj
      have e : ∀ q, put2 s.did k rq (s.ctr + 1) j q = s.did j q := fun q => hp2 j q (fun e => hjk e.1)
      refine ⟨d, cl_other hD.mem hD.num (by omega) hd.cl, hd.idk, hd.asker, hd.fl0, hd.fl, fun x hx => ?_, fun q hq => ?_, hd.fi, fun q hq => ?_, fun q hq => ?_⟩
      · show x.f0 ≤ d.f1 + 8 ∧ put2 s.did k rq (s.ctr + 1) j x.f0 ≠ 0 ∧ x.f1 = [0, put2 s.did k rq (s.ctr + 1) j x.f0]
        rw [e]
        exact hd.kept x hx
      · exact hd.dn q (by rw [← e]; exact hq)
      · show s.got j q = put2 s.did k rq (s.ctr + 1) j q
        rw [e]
        exact hd.fd q hq
      · have hq' : s.did j q ≠ 0 := by rw [← e]; exact hq
        have := hd.rg q hq'
        show 1 ≤ put2 s.did k rq (s.ctr + 1) j q ∧ put2 s.did k rq (s.ctr + 1) j q ≤ s.ctr + 1
        rw [e]
        omega
  · have := h.nxs j hj
    show (s.a j).nx ≤ n + 1 + 1
    omega
  · rcases List.mem_append.1 hp with hp | hp
    · obtain ⟨j, hj, h5, h6, h7, h8, h9⟩ := h.bok p hp
      have e := hp2 j p.2.1 (fun e => h9 (by obtain ⟨e1, e2⟩ := e; subst e1; rw [e2]; exact h3))
      refine ⟨j, hj, h5, h6, h7, ?_, ?_⟩
      · show p.2.2 = put2 s.did k rq (s.ctr + 1) j p.2.1
        rw [e]
        exact h8
      · show put2 s.did k rq (s.ctr + 1) j p.2.1 ≠ 0
        rw [e]
        exact h9
    · have : p = ((k : Int) + 1, rq, s.ctr + 1) := by simpa using hp
      subst this
      refine ⟨k, hk, rfl, by show 1 ≤ rq; omega, h4, ?_, ?_⟩
      · show s.ctr + 1 = put2 s.did k rq (s.ctr + 1) k rq
        rw [hp1]
      · show put2 s.did k rq (s.ctr + 1) k rq ≠ 0
        rw [hp1]
        omega
/-- What an arrival does. -/
theorem arrive_law {s : Ws} {n : Int} (h : InvO s n) (hn : n ≤ 200) {p : Int × Int × Int} (hp : okTo s p) : ∃ k : Nat, k < 4 ∧ p.1 = (k : Int) + 1 ∧ 1 ≤ p.2.1 ∧ p.2.1 ≤ 200 ∧ lookArgs p.1 p.2.1 p.2.2 ∧
    ∃ l1, RightP l1 ∧ (
      (lookGood s.l p.1 p.2.1 p.2.2 = (l1, 1, [], 0) ∧ s.did k p.2.1 = 0 ∧ ∃ m, donePure l1 p.1 p.2.1 [0, s.ctr + 1] = (m, 0) ∧ InvO { s with l := m, did := put2 s.did k p.2.1 (s.ctr + 1), bks := s.bks ++ [(p.1, p.2.1, s.ctr + 1)], ctr := s.ctr + 1 } (n + 1)) ∨
      (lookGood s.l p.1 p.2.1 p.2.2 = (l1, 2, [0, s.did k p.2.1], 0) ∧ 1 ≤ s.did k p.2.1 ∧ s.did k p.2.1 ≤ n ∧ InvO { s with l := l1, bks := s.bks ++ [(p.1, p.2.1, s.did k p.2.1)] } n) ∨
      (lookGood s.l p.1 p.2.1 p.2.2 = (l1, 3, [], 0) ∧ s.got k p.2.1 ≠ 0 ∧ InvO { s with l := l1 } n)) := by
  obtain ⟨ha, c, c', hL⟩ := look_ok h hn hp
  obtain ⟨k, hk, h1, h2, h3, h4, h5, h6⟩ := hp
  have hnx := h.nxs k hk
  obtain ⟨id, rq, ak⟩ := p
  simp only at h1 h2 h3 h4 h5 h6 ha hL ⊢
  subst h1
  obtain ⟨hI, hC⟩ := inv_looked h hk hL h2 h5
  obtain ⟨l1, v, x, e, hr⟩ : ∃ l1 v x e, lookGood s.l ((k : Int) + 1) rq ak = (l1, v, x, e) := ⟨_, _, _, _, rfl⟩
  rw [hr] at hL hI hC
  rw [hr]
  have ht := hL.tells
  have hmx := mx_two c.f1 ak
  have hf := hL.floor
  refine ⟨k, hk, rfl, by omega, by omega, ha, l1, hL.right, ?_⟩
  rcases ht with ⟨t1, t2⟩ | ⟨t1, y, hy, hyq, t2⟩ | ⟨t1, t2, t3, t4⟩ | ⟨t1, t2, t3, t4⟩
  · refine Or.inr (Or.inr ⟨?_, ?_, hI⟩)
    · simp only at t2
      rw [t2]
    · refine (hC.fi rq).2 ⟨by omega, h6, fun x hx => ?_⟩
      have h8 : (s.a k).ak < x.f0 := ack_lt hC.asker x hx
      have h9 : c'.f1 ≤ (s.a k).ak := hC.fl
      omega
  · obtain ⟨k1, k2, k3⟩ := hC.kept y hy
    have hrg := hC.rg rq (by rw [← hyq]; exact k2)
    have hcn := h.cn
    simp only at k1 k2 k3 t2 hrg
    refine Or.inr (Or.inl ⟨?_, by omega, by omega, ?_⟩)
    · rw [t2, k3, hyq]
    · refine ⟨hI.right, hI.ids, fun j hj => ?_, hI.nxs, hI.cn0, hI.cn, hI.tok, fun q hq => ?_⟩
      · obtain ⟨d, hd⟩ := hI.each j hj
        exact ⟨d, hd.cl, hd.idk, hd.asker, hd.fl0, hd.fl, hd.kept, hd.dn, hd.fi, hd.fd, hd.rg⟩
      · rcases List.mem_append.1 hq with hq | hq
        · exact hI.bok q hq
        · have : q = ((k : Int) + 1, rq, s.did k rq) := by simpa using hq
          subst this
          exact ⟨k, hk, rfl, by show 1 ≤ rq; omega, h6, rfl, by show s.did k rq ≠ 0; omega⟩
  · exfalso
    have hw := (wrong_iff.1 hL.wrong).2.2.2
    have := few_gap (c'.f2.map S46.f0) c'.f1 (c'.f1 + 8) rq hw (fun x hx => by obtain ⟨y, hy, rfl⟩ := List.mem_map.1 hx; exact (hC.kept y hy).1) (fun x hx => by obtain ⟨y, hy, rfl⟩ := List.mem_map.1 hx; exact t2 y hy) t1 (by omega)
    rw [List.length_map] at this
    omega
  · have hd0 : s.did k rq = 0 := by
      by_cases hz : s.did k rq = 0
      · exact hz
      · rcases hC.dn rq hz with ⟨x, hx, hxq⟩ | h7
        · exact absurd hxq (t2 x hx)
        · omega
    obtain ⟨m, c2, hm, hD⟩ := done_facts (rep := [0, s.ctr + 1]) hL.right ((hL.mem c').2 (Or.inl rfl)) hL.num t1 (by omega) t2 t3 (by simp)
    refine Or.inl ⟨?_, hd0, m, hm, ?_⟩
    · simp only at t4
      rw [t4]
    · exact inv_doned (ak := ak) hI hk hC hD (by omega) t1 hd0 h6
end Go.Proofs.Ytafnjlgdjhegaaa.Pr
end
section
namespace Go.Proofs.Ytafnjlgdjhegaaa.Pr
open Go.RowKit Go.Proofs.YtafnjlgdjhegaaaW.PrintWords
set_option linter.unusedVariables false
set_option linter.unusedSimpArgs false
theorem last_le {ws : List S70} (hr : rises 0 (ws.map S70.f0) = true) : ∀ x ∈ ws, x.f0 ≤ lastN ws := by
  intro x hx
  obtain ⟨j, hj, rfl⟩ := List.getElem_of_mem hx
  have hg := (rises_get (ws.map S70.f0) 0 hr).2
  have e : lastN ws = (ws.map S70.f0).getD (ws.length - 1) 0 := by
    rw [map_getD ws (ws.length - 1) (by omega)]
    unfold lastN
    rw [List.getD_eq_getElem?_getD, List.getElem?_eq_getElem (by omega)]
    rfl
  rw [e, ← map_getD ws j hj]
  by_cases h : j = ws.length - 1
  · rw [h]
    exact Int.le_refl _
  · exact Int.le_of_lt (hg j (ws.length - 1) (by omega) (by rw [List.length_map]; omega))
theorem asker_iff {id nx ak : Int} {ws : List S70} : askerB id nx ak ws = true ↔ (1 ≤ id ∧ id ≤ 4611686018427387904) ∧ (1 ≤ nx ∧ nx ≤ 4611686018427387904) ∧ rises 0 (ws.map S70.f0) = true ∧ (∀ x ∈ ws, x.f0 < nx) ∧ ak = ackP nx ws ∧ nx - 1 - ak ≤ 8 := by
  unfold askerB
  simp only [Bool.and_eq_true, Bool.or_eq_true, decide_eq_true_eq]
  constructor
  · rintro ⟨⟨⟨⟨⟨⟨⟨h1, h2⟩, h3⟩, h4⟩, h5⟩, h6⟩, h7⟩, h8⟩
    refine ⟨⟨h1, h2⟩, ⟨h3, h4⟩, h5, fun x hx => ?_, h7, h8⟩
    have := last_le h5 x hx
    rcases h6 with h6 | h6
    · rw [List.eq_nil_of_length_eq_zero h6] at hx
      cases hx
    · omega
  · rintro ⟨⟨h1, h2⟩, ⟨h3, h4⟩, h5, h6, h7, h8⟩
    refine ⟨⟨⟨⟨⟨⟨⟨h1, h2⟩, h3⟩, h4⟩, h5⟩, ?_⟩, h7⟩, h8⟩
    by_cases h : ws.length = 0
    · exact Or.inl h
    · refine Or.inr (h6 _ ?_)
      rw [List.getD_eq_getElem?_getD, List.getElem?_eq_getElem (by omega)]
      exact List.getElem_mem _
theorem rises_filter : ∀ (l : List S70) (f : S70 → Bool) (a : Int), rises a (l.map S70.f0) = true → rises a ((l.filter f).map S70.f0) = true
  | [], f, a, _ => rfl
  | x :: l, f, a, h => by
    simp only [List.map_cons, rises, Bool.and_eq_true, Bool.not_eq_true', decide_eq_false_iff_not] at h
    have ih := rises_filter l f x.f0 h.2
    by_cases hf : f x = true
    · rw [List.filter_cons_of_pos hf, List.map_cons]
      simp only [rises, Bool.and_eq_true, Bool.not_eq_true', decide_eq_false_iff_not]
      exact ⟨h.1, ih⟩
    · rw [List.filter_cons_of_neg hf]
      rw [rises_iff] at ih ⊢
      exact ⟨ih.1, fun y hy => ⟨by have := (ih.2 y hy).1; omega, (ih.2 y hy).2⟩⟩
theorem ack_grows {nx : Int} {ws : List S70} (hr : rises 0 (ws.map S70.f0) = true) (hl : ∀ x ∈ ws, x.f0 < nx) (f : S70 → Bool) : ackP nx ws ≤ ackP nx (ws.filter f) := by
  cases hm : ws.filter f with
  | nil =>
    cases ws with
    | nil => exact Int.le_refl _
    | cons x l =>
      have := hl x (by simp)
      show x.f0 - 1 ≤ nx - 1
      omega
  | cons y m =>
    have hy : y ∈ ws := (List.mem_filter.1 (by rw [hm]; simp : y ∈ ws.filter f)).1
    cases ws with
    | nil => cases hy
    | cons x l =>
      show x.f0 - 1 ≤ y.f0 - 1
      rcases List.mem_cons.1 hy with rfl | hy
      · omega
      · simp only [List.map_cons, rises, Bool.and_eq_true] at hr
        have := rises_mem hr.2 y.f0 (List.mem_map.2 ⟨y, hy, rfl⟩)
        omega
def setA (f : Nat → Ak) (k : Nat) (x : Ak) : Nat → Ak := fun j => if j = k then x else f j
theorem inv_sub {s : Ws} {n : Int} (h : InvO s n) {t b : List (Int × Int × Int)} (ht : ∀ p ∈ t, p ∈ s.tos) (hb : ∀ p ∈ b, p ∈ s.bks) : InvO { s with tos := t, bks := b } n :=
  ⟨h.right, h.ids, fun k hk => by
    obtain ⟨c, hc⟩ := h.each k hk
    exact ⟨c, hc.cl, hc.idk, hc.asker, hc.fl0, hc.fl, hc.kept, hc.dn, hc.fi, hc.fd, hc.rg⟩, h.nxs, h.cn0, h.cn, fun p hp => h.tok p (ht p hp), fun p hp => h.bok p (hb p hp)⟩
theorem inv_more {s : Ws} {n m : Int} (h : InvO s n) (hnm : n ≤ m) : InvO s m :=
  ⟨h.right, h.ids, h.each, fun k hk => by have := h.nxs k hk; omega, h.cn0, by have := h.cn; omega, h.tok, h.bok⟩
/-- An asker that has moved on: its number grows, what it knows to be answered grows. -/
theorem inv_asker {s : Ws} {n : Int} (h : InvO s n) {k : Nat} (hk : k < 4) {x : Ak} {g : Nat → Int → Int} (hid : x.id = (k : Int) + 1) (ha : askerB x.id x.nx x.ak x.ws = true) (h1 : (s.a k).ak ≤ x.ak) (h2 : (s.a k).nx ≤ x.nx) (h3 : x.nx ≤ n + 1)
    (hg : ∀ j q, j ≠ k → g j q = s.got j q) (hfi : ∀ r, g k r ≠ 0 ↔ (1 ≤ r ∧ r < x.nx ∧ ∀ y ∈ x.ws, y.f0 ≠ r)) (hfd : ∀ r, g k r ≠ 0 → g k r = s.did k r) : InvO { s with a := setA s.a k x, got := g } n := by
  have e1 : setA s.a k x k = x := by simp [setA]
  have e2 : ∀ j, j ≠ k → setA s.a k x j = s.a j := fun j hj => by simp [setA, hj]
  refine ⟨h.right, h.ids, fun j hj => ?_, fun j hj => ?_, h.cn0, h.cn, fun p hp => ?_, fun p hp => ?_⟩
  · obtain ⟨c, hc⟩ := h.each j hj
    by_cases hjk : j = k
    · subst hjk
      have hfl := hc.fl
      refine ⟨c, hc.cl, ?_, ?_, hc.fl0, ?_, hc.kept, hc.dn, fun r => ?_, hfd, hc.rg⟩
      · show (setA s.a j x j).id = _
        rw [e1]
        exact hid
      · show askerB (setA s.a j x j).id (setA s.a j x j).nx (setA s.a j x j).ak (setA s.a j x j).ws = true
        rw [e1]
        exact ha
      · show c.f1 ≤ (setA s.a j x j).ak
        rw [e1]
        omega
      · show g j r ≠ 0 ↔ (1 ≤ r ∧ r < (setA s.a j x j).nx ∧ ∀ y ∈ (setA s.a j x j).ws, y.f0 ≠ r)
        rw [e1]
        exact hfi r
    · refine ⟨c, hc.cl, ?_, ?_, hc.fl0, ?_, hc.kept, hc.dn, fun r => ?_, fun r hr => ?_, hc.rg⟩
      · show (setA s.a k x j).id = _
        rw [e2 j hjk]
        exact hc.idk
      · show askerB (setA s.a k x j).id (setA s.a k x j).nx (setA s.a k x j).ak (setA s.a k x j).ws = true
        rw [e2 j hjk]
        exact hc.asker
      · show c.f1 ≤ (setA s.a k x j).ak
        rw [e2 j hjk]
        exact hc.fl
      · show g j r ≠ 0 ↔ (1 ≤ r ∧ r < (setA s.a k x j).nx ∧ ∀ y ∈ (setA s.a k x j).ws, y.f0 ≠ r)
        rw [e2 j hjk, hg j r hjk]
        exact hc.fi r
      · show g j r = s.did j r
        have hr' : g j r ≠ 0 := hr
        rw [hg j r hjk] at hr' ⊢
        exact hc.fd r hr'
  · show (setA s.a k x j).nx ≤ n + 1
    by_cases hjk : j = k
    · subst hjk
      rw [e1]
      exact h3
    · rw [e2 j hjk]
      exact h.nxs j hj
  · obtain ⟨j, hj, q1, q2, q3, q4, q5, q6⟩ := h.tok p hp
    refine ⟨j, hj, q1, q2, q3, q4, ?_, ?_⟩
    · show _ ≤ (setA s.a k x j).ak
      by_cases hjk : j = k
      · subst hjk
        rw [e1]
        omega
      · rw [e2 j hjk]
        exact q5
    · show _ < (setA s.a k x j).nx
      by_cases hjk : j = k
      · subst hjk
        rw [e1]
        omega
      · rw [e2 j hjk]
        exact q6
  · obtain ⟨j, hj, q1, q2, q3, q4, q5⟩ := h.bok p hp
    refine ⟨j, hj, q1, q2, ?_, q4, q5⟩
    show _ < (setA s.a k x j).nx
    by_cases hjk : j = k
    · subst hjk
      rw [e1]
      omega
    · rw [e2 j hjk]
      exact q3
/-- What a reply that arrives does. -/
theorem take_law {s : Ws} {n : Int} (h : InvO s n) (hn : n ≤ 200) {p : Int × Int × Int} (hp : okBack s p) : ∃ k : Nat, k < 4 ∧ p.1 = (k : Int) + 1 ∧ 1 ≤ p.2.1 ∧ p.2.1 ≤ 200 ∧ askerB (s.a k).id (s.a k).nx (s.a k).ak (s.a k).ws = true ∧
    (hasL (s.a k).ws p.2.1 = decide (s.got k p.2.1 = 0)) ∧ (s.got k p.2.1 ≠ 0 → s.got k p.2.1 = p.2.2) ∧
    InvO { s with a := setA s.a k ⟨(s.a k).id, (s.a k).nx, ackP (s.a k).nx (takeL (s.a k).ws p.2.1), takeL (s.a k).ws p.2.1⟩, got := put2 s.got k p.2.1 p.2.2 } n := by
  obtain ⟨k, hk, h1, h2, h3, h4, h5⟩ := hp
  obtain ⟨id, r, v⟩ := p
  simp only at h1 h2 h3 h4 h5 ⊢
  have hnx := h.nxs k hk
  obtain ⟨c, hc⟩ := h.each k hk
  obtain ⟨a1, a2, a3, a4, a5, a6⟩ := asker_iff.1 hc.asker
  have hg := ack_grows a3 a4 (fun x => !decide (x.f0 = r))
  have hp1 : put2 s.got k r v k r = v := by simp [put2]
  have hp2 : ∀ j q, ¬ (j = k ∧ q = r) → put2 s.got k r v j q = s.got j q := fun j q hh => by simp [put2, hh]
  refine ⟨k, hk, h1, h2, by omega, hc.asker, ?_, fun hz => ?_, ?_⟩
  · have hi := hc.fi r
    rw [Bool.eq_iff_iff, decide_eq_true_eq]
    unfold hasL
    rw [List.any_eq_true]
    constructor
    · rintro ⟨x, hx, hxr⟩
      have hxr' : x.f0 = r := by simpa using hxr
      by_cases hz : s.got k r = 0
      · exact hz
      · exact absurd hxr' ((hi.1 hz).2.2 x hx)
    · intro hz
      by_cases hex : ∃ x ∈ (s.a k).ws, x.f0 = r
      · obtain ⟨x, hx, hxr⟩ := hex
        exact ⟨x, hx, by simpa using hxr⟩
      · exact absurd hz (hi.2 ⟨h2, h3, fun x hx e => hex ⟨x, hx, e⟩⟩)
  · rw [hc.fd r hz, h4]
  · refine inv_asker h hk hc.idk ?_ ?_ (Int.le_refl _) hnx (fun j q hj => hp2 j q (fun e => hj e.1)) (fun q => ?_) (fun q hq => ?_)
    · exact asker_iff.2 ⟨a1, a2, rises_filter _ _ _ a3, fun x hx => a4 x (List.mem_filter.1 hx).1, rfl, by show (s.a k).nx - 1 - ackP (s.a k).nx (takeL (s.a k).ws r) ≤ 8; unfold takeL; omega⟩
    · show (s.a k).ak ≤ ackP (s.a k).nx (takeL (s.a k).ws r)
      unfold takeL
      omega
    · show put2 s.got k r v k q ≠ 0 ↔ (1 ≤ q ∧ q < (s.a k).nx ∧ ∀ y ∈ takeL (s.a k).ws r, y.f0 ≠ q)
      by_cases hq : q = r
      · subst hq
        rw [hp1]
        refine ⟨fun _ => ⟨h2, h3, fun y hy => by simpa using (List.mem_filter.1 hy).2⟩, fun _ => by rw [h4]; exact h5⟩
      · rw [hp2 k q (fun e => hq e.2), hc.fi q]
        refine ⟨fun ⟨b1, b2, b3⟩ => ⟨b1, b2, fun y hy => b3 y (List.mem_filter.1 hy).1⟩, fun ⟨b1, b2, b3⟩ => ⟨b1, b2, fun y hy e => ?_⟩⟩
        by_cases hyr : y.f0 = r
        · omega
        · exact b3 y (List.mem_filter.2 ⟨hy, by simpa using hyr⟩) e
    · have hq' : put2 s.got k r v k q ≠ 0 := hq
      show put2 s.got k r v k q = s.did k q
      by_cases hqr : q = r
      · subst hqr
        rw [hp1, h4]
      · rw [hp2 k q (fun e => hqr e.2)] at hq' ⊢
        exact hc.fd q hq'
theorem rises_snoc {T : List Int} {a q : Int} (h : rises a T = true) (h1 : a < q) (h2 : ∀ x ∈ T, x < q) (h3 : q ≤ 4611686018427387904) : rises a (T ++ [q]) = true := by
  rw [rises_iff] at h ⊢
  refine ⟨List.pairwise_append.2 ⟨h.1, by simp, fun x hx y hy => ?_⟩, fun x hx => ?_⟩
  · have : y = q := by simpa using hy
    subst this
    exact h2 x hx
  · rcases List.mem_append.1 hx with hx | hx
    · exact h.2 x hx
    · have : x = q := by simpa using hx
      subst this
      exact ⟨h1, h3⟩
/-- What an asker does that may ask. -/
theorem ask_law {s : Ws} {n : Int} (h : InvO s n) (hn : n ≤ 200) {k : Nat} (hk : k < 4) (body : List Int) (hw : ¬ (s.a k).nx - 1 - (s.a k).ak ≥ 8) :
    InvO { s with a := setA s.a k ⟨(s.a k).id, (s.a k).nx + 1, (s.a k).ak, (s.a k).ws ++ [⟨(s.a k).nx, body⟩]⟩ } (n + 1) := by
  have hnx := h.nxs k hk
  obtain ⟨c, hc⟩ := h.each k hk
  obtain ⟨a1, a2, a3, a4, a5, a6⟩ := asker_iff.1 hc.asker
  refine inv_asker (g := s.got) (inv_more h (by omega)) hk hc.idk ?_ (Int.le_refl _) (by show (s.a k).nx ≤ (s.a k).nx + 1; omega) (by show (s.a k).nx + 1 ≤ n + 1 + 1; omega) (fun j q hj => rfl) (fun q => ?_) hc.fd
  · refine asker_iff.2 ⟨a1, ⟨by show 1 ≤ (s.a k).nx + 1; omega, by show (s.a k).nx + 1 ≤ _; omega⟩, ?_, fun x hx => ?_, ?_, ?_⟩
    · show rises 0 (((s.a k).ws ++ [(⟨(s.a k).nx, body⟩ : S70)]).map S70.f0) = true
      rw [List.map_append]
      exact rises_snoc (q := (s.a k).nx) a3 (by omega) (fun x hx => by obtain ⟨y, hy, rfl⟩ := List.mem_map.1 hx; exact a4 y hy) a2.2
    · show x.f0 < (s.a k).nx + 1
      rcases List.mem_append.1 hx with hx | hx
      · have := a4 x hx
        omega
      · have : x = (⟨(s.a k).nx, body⟩ : S70) := by simpa using hx
        subst this
        show (s.a k).nx < (s.a k).nx + 1
        omega
    · show (s.a k).ak = ackP ((s.a k).nx + 1) ((s.a k).ws ++ [(⟨(s.a k).nx, body⟩ : S70)])
      rw [a5]
      cases (s.a k).ws with
      | nil => rfl
      | cons x l => rfl
    · show (s.a k).nx + 1 - 1 - (s.a k).ak ≤ 8
      omega
  · show s.got k q ≠ 0 ↔ (1 ≤ q ∧ q < (s.a k).nx + 1 ∧ ∀ y ∈ (s.a k).ws ++ [(⟨(s.a k).nx, body⟩ : S70)], y.f0 ≠ q)
    rw [hc.fi q]
    constructor
    · rintro ⟨b1, b2, b3⟩
      refine ⟨b1, by omega, fun y hy => ?_⟩
      rcases List.mem_append.1 hy with hy | hy
      · exact b3 y hy
      · have : y = (⟨(s.a k).nx, body⟩ : S70) := by simpa using hy
        subst this
        show (s.a k).nx ≠ q
        omega
    · rintro ⟨b1, b2, b3⟩
      have : (s.a k).nx ≠ q := b3 (⟨(s.a k).nx, body⟩ : S70) (by simp)
      exact ⟨b1, by omega, fun y hy => b3 y (by simp [hy])⟩
/-- A request that is sent, or sent again. -/
theorem send_law {s : Ws} {n : Int} (h : InvO s n) {k : Nat} (hk : k < 4) {r : Int} (h1 : (s.a k).ak < r) (h2 : r < (s.a k).nx) : InvO { s with tos := s.tos ++ [((s.a k).id, r, (s.a k).ak)] } n := by
  obtain ⟨c, hc⟩ := h.each k hk
  obtain ⟨a1, a2, a3, a4, a5, a6⟩ := asker_iff.1 hc.asker
  refine ⟨h.right, h.ids, fun j hj => ?_, h.nxs, h.cn0, h.cn, fun p hp => ?_, h.bok⟩
  · obtain ⟨d, hd⟩ := h.each j hj
    exact ⟨d, hd.cl, hd.idk, hd.asker, hd.fl0, hd.fl, hd.kept, hd.dn, hd.fi, hd.fd, hd.rg⟩
  · rcases List.mem_append.1 hp with hp | hp
    · exact h.tok p hp
    · have : p = ((s.a k).id, r, (s.a k).ak) := by simpa using hp
      subst this
      have := hc.fl0
      have := hc.fl
      exact ⟨k, hk, hc.idk, by show 0 ≤ (s.a k).ak; omega, h1, by show r ≤ (s.a k).ak + 8; omega, Int.le_refl _, h2⟩
/-- One that waits may be sent again. -/
theorem wait_law {s : Ws} {n : Int} (h : InvO s n) {k : Nat} (hk : k < 4) : ∀ x ∈ (s.a k).ws, (s.a k).ak < x.f0 ∧ x.f0 < (s.a k).nx := fun x hx => by
  obtain ⟨c, hc⟩ := h.each k hk
  exact ⟨ack_lt hc.asker x hx, (asker_iff.1 hc.asker).2.2.2.1 x hx⟩
/-- The start. -/
def startO : Ws := ⟨[], fun k => ⟨(k : Int) + 1, 1, 0, []⟩, [], [], fun _ _ => 0, fun _ _ => 0, 0⟩
theorem start_law : InvO startO 0 := by
  refine ⟨⟨by rfl, by simp [small44, startO]⟩, fun d hd => (by cases hd), fun k hk => ⟨⟨(k : Int) + 1, 0, []⟩, Or.inr ⟨fun d hd => (by cases hd), rfl⟩, rfl, ?_, Int.le_refl _, Int.le_refl _, fun x hx => (by cases hx), fun r hr => absurd rfl hr, fun r => ⟨fun h => absurd rfl h, fun h => ?_⟩, fun r hr => absurd rfl hr, fun r hr => absurd rfl hr⟩, fun k hk => Int.le_refl _, Int.le_refl _, Int.le_refl _, fun p hp => (by cases hp), fun p hp => (by cases hp)⟩
  · refine asker_iff.2 ⟨⟨by show 1 ≤ (k : Int) + 1; omega, by show (k : Int) + 1 ≤ _; omega⟩, ⟨show (1 : Int) ≤ 1 by decide, show (1 : Int) ≤ 4611686018427387904 by decide⟩, rfl, fun x hx => (by cases hx), rfl, show (1 : Int) - 1 - 0 ≤ 8 by decide⟩
  · have h1 := h.1
    have h2 : r < 1 := h.2.1
    omega
end Go.Proofs.Ytafnjlgdjhegaaa.Pr
end
