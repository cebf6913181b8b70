/- What is proved here: parts D2, D3, D4 of the walk of the law and of its plain side; no condition but those that each theorem states. -/
import Derived.Test.YtcbceacjhmblnaaGreatA3
/- What is proved: what is done to an ok chain leaves it ok. -/
set_option linter.all false
namespace Go.Hw

theorem parts_iff {l : List Int} : parts l = true ↔ ∃ a b c, l = [a, b, c] ∧ (0 ≤ a ∧ a ≤ 30) ∧ (0 ≤ b ∧ b ≤ 30) ∧ (0 ≤ c ∧ c ≤ 30) := by
  constructor
  · intro h
    have hl := parts_len h
    match l, hl with
    | [a, b, c], _ => exact ⟨a, b, c, rfl, parts_get h 0, parts_get h 1, parts_get h 2⟩
  · rintro ⟨a, b, c, rfl, h1, h2, h3⟩
    simp only [parts, rall, List.length_cons, List.length_nil, Bool.and_eq_true, decide_eq_true_eq]
    refine ⟨?_, by simp⟩
    rw [List.all_eq_true]
    intro i hi
    simp at hi
    match i, hi with
    | 0, _ => simpa [In] using h1
    | 1, _ => simpa [In] using h2
    | 2, _ => simpa [In] using h3
theorem isum3 (a b c : Int) : isum [a, b, c] = a + b + c := by simp [isum]
theorem bank_iff {b : Bank} : b.ok = true ↔ parts b.own = true ∧ parts b.notes = true ∧ 0 ≤ b.locked ∧ isum b.own + b.locked = 30 ∧ isum b.notes ≤ 30 := by simp [Bank.ok]
theorem user_ix {u : Int} (h : In u 1 3 = true) : (u - 1).toNat = 0 ∨ (u - 1).toNat = 1 ∨ (u - 1).toNat = 2 := by rw [In_iff] at h; omega

theorem awayD_ok {b : Bank} {kind src sum : Int} (h : b.ok = true) (hs : In src 1 3 = true) (h0 : 0 ≤ sum) (hA : b.awayB kind src sum = true) : (b.awayD kind src sum).ok = true := by
  rw [bank_iff] at *
  obtain ⟨p1, p2, h1, h2, h3⟩ := h
  obtain ⟨a1, a2, a3, e1, r1, r2, r3⟩ := parts_iff.1 p1
  obtain ⟨c1, c2, c3, e2, s1, s2, s3⟩ := parts_iff.1 p2
  obtain ⟨own, notes, locked⟩ := b
  simp only at e1 e2 h1 h2 h3
  subst e1; subst e2
  rw [isum3] at h2 h3
  simp only [Bank.awayB, Bank.at, Bank.list, decide_eq_true_eq] at hA
  unfold Bank.awayD
  by_cases hk : kind = 1
  · rw [if_pos hk] at hA ⊢
    rcases user_ix hs with e | e | e <;> rw [e] at hA <;> simp only [Bank.dec, Bank.put, Bank.list, Bank.at, if_pos hk, e, List.set_cons_zero, List.set_cons_succ, List.getD_cons_zero, List.getD_cons_succ, parts_iff] at hA ⊢ <;>
      (refine ⟨⟨_, _, _, rfl, ?_, ?_, ?_⟩, ⟨_, _, _, rfl, ?_, ?_, ?_⟩, ?_, ?_, ?_⟩ <;> (try simp only [isum3]) <;> omega)
  · rw [if_neg hk] at hA ⊢
    rcases user_ix hs with e | e | e <;> rw [e] at hA <;> simp only [Bank.dec, Bank.put, Bank.list, Bank.at, if_neg hk, e, List.set_cons_zero, List.set_cons_succ, List.getD_cons_zero, List.getD_cons_succ, parts_iff] at hA ⊢ <;>
      (refine ⟨⟨_, _, _, rfl, ?_, ?_, ?_⟩, ⟨_, _, _, rfl, ?_, ?_, ?_⟩, ?_, ?_, ?_⟩ <;> (try simp only [isum3]) <;> omega)
theorem backD_ok {b : Bank} {kind dst sum : Int} (h : b.ok = true) (hs : In dst 1 3 = true) (hk : In kind 1 2 = true) (h0 : 0 ≤ sum) (hA : b.backB kind dst sum = true) : (b.backD kind dst sum).ok = true := by
  rw [bank_iff] at *
  obtain ⟨p1, p2, h1, h2, h3⟩ := h
  obtain ⟨a1, a2, a3, e1, r1, r2, r3⟩ := parts_iff.1 p1
  obtain ⟨c1, c2, c3, e2, s1, s2, s3⟩ := parts_iff.1 p2
  obtain ⟨own, notes, locked⟩ := b
  simp only at e1 e2 h1 h2 h3
  subst e1; subst e2
  rw [isum3] at h2 h3
  rw [In_iff] at hk
  unfold Bank.backD
  by_cases hk1 : kind = 1
  · have hA' : sum ≤ locked := by simpa [Bank.backB, hk1] using hA
    rw [if_pos hk1]
    rcases user_ix hs with e | e | e <;> simp only [Bank.add, Bank.put, Bank.list, Bank.at, if_pos hk1, e, List.set_cons_zero, List.set_cons_succ, List.getD_cons_zero, List.getD_cons_succ, parts_iff] <;>
      (refine ⟨⟨_, _, _, rfl, ?_, ?_, ?_⟩, ⟨_, _, _, rfl, ?_, ?_, ?_⟩, ?_, ?_, ?_⟩ <;> (try simp only [isum3]) <;> omega)
  · have hk2 : kind = 2 := by omega
    have hA' : isum [c1, c2, c3] + sum ≤ 30 := by simpa [Bank.backB, hk2] using hA
    rw [isum3] at hA'
    rw [if_neg hk1]
    rcases user_ix hs with e | e | e <;> simp only [Bank.add, Bank.put, Bank.list, Bank.at, if_neg hk1, e, List.set_cons_zero, List.set_cons_succ, List.getD_cons_zero, List.getD_cons_succ, parts_iff] <;>
      (refine ⟨⟨_, _, _, rfl, ?_, ?_, ?_⟩, ⟨_, _, _, rfl, ?_, ?_, ?_⟩, ?_, ?_, ?_⟩ <;> (try simp only [isum3]) <;> omega)
theorem back_ok {b : Bank} {kind dst sum : Int} (h : b.ok = true) (hs : In dst 1 3 = true) (hk : In kind 1 2 = true) (h0 : 0 ≤ sum) : (b.back kind dst sum).ok = true := by
  unfold Bank.back
  split
  · exact backD_ok h hs hk h0 ‹_›
  · exact h
theorem moveD_ok {b : Bank} {kind src dst sum : Int} (hm : b.moveB kind src dst sum = true) : (b.moveD kind src dst sum).ok = true := by
  simp only [Bank.moveB, Bool.and_eq_true, decide_eq_true_eq] at hm
  obtain ⟨h, hk, hs, hd, h0, hA⟩ := hm
  simp only [Bank.at, Bank.list] at hA
  rw [bank_iff] at *
  obtain ⟨p1, p2, h1, h2, h3⟩ := h
  obtain ⟨a1, a2, a3, e1, r1, r2, r3⟩ := parts_iff.1 p1
  obtain ⟨c1, c2, c3, e2, s1, s2, s3⟩ := parts_iff.1 p2
  obtain ⟨own, notes, locked⟩ := b
  simp only at e1 e2 h1 h2 h3
  subst e1; subst e2
  rw [isum3] at h2 h3
  unfold Bank.moveD
  by_cases hk1 : kind = 1
  · rw [if_pos hk1] at hA
    rcases user_ix hs with e | e | e <;> rcases user_ix hd with e' | e' | e' <;> rw [e] at hA <;> simp only [Bank.dec, Bank.add, Bank.put, Bank.list, Bank.at, if_pos hk1, e, e', List.set_cons_zero, List.set_cons_succ, List.getD_cons_zero, List.getD_cons_succ, parts_iff] at hA ⊢ <;>
      (refine ⟨⟨_, _, _, rfl, ?_, ?_, ?_⟩, ⟨_, _, _, rfl, ?_, ?_, ?_⟩, ?_, ?_, ?_⟩ <;> (try simp only [isum3]) <;> omega)
  · rw [if_neg hk1] at hA
    rcases user_ix hs with e | e | e <;> rcases user_ix hd with e' | e' | e' <;> rw [e] at hA <;> simp only [Bank.dec, Bank.add, Bank.put, Bank.list, Bank.at, if_neg hk1, e, e', List.set_cons_zero, List.set_cons_succ, List.getD_cons_zero, List.getD_cons_succ, parts_iff] at hA ⊢ <;>
      (refine ⟨⟨_, _, _, rfl, ?_, ?_, ?_⟩, ⟨_, _, _, rfl, ?_, ?_, ?_⟩, ?_, ?_, ?_⟩ <;> (try simp only [isum3]) <;> omega)

theorem packet_iff {p : Packet} : p.ok = true ↔ (1 ≤ p.seq ∧ p.seq ≤ 8) ∧ (1 ≤ p.kind ∧ p.kind ≤ 2) ∧ (1 ≤ p.src ∧ p.src ≤ 3) ∧ (0 ≤ p.dst ∧ p.dst ≤ 3) ∧ (1 ≤ p.sum ∧ p.sum ≤ 9) ∧ (1 ≤ p.till ∧ p.till ≤ 90) ∧ (1 ≤ p.ver ∧ p.ver ≤ 9) := by
  simp only [Packet.ok, Bool.and_eq_true, In_iff]
theorem state_iff {s : State} : s.ok = true ↔ (0 ≤ s.way ∧ s.way ≤ 4) ∧ (1 ≤ s.ver ∧ s.ver ≤ 9) ∧ s.sent.length ≤ 8 ∧ s.live.length = s.sent.length ∧ s.back.length = s.sent.length ∧ s.got.length = 8 ∧
    (∀ i, i < s.sent.length → s.sentOk i = true) ∧ (∀ i, i < 8 → 0 ≤ s.got.getD i 0 ∧ s.got.getD i 0 ≤ 2) ∧ (if s.way = 4 then s.want = s.ver + 1 ∧ s.want ≤ 9 else s.want = 0) := by
  refine ⟨state_ok, ?_⟩
  rintro ⟨h1, h2, h3, h4, h5, h6, h7, h8, h9⟩
  simp only [State.ok, Bool.and_eq_true, decide_eq_true_eq, In_iff, rall_iff]
  refine ⟨h1, h2, by omega, by omega, by omega, by omega, h7, fun i hi => h8 i (by omega), ?_⟩
  split at h9
  · rename_i hw; simp [hw, h9]; omega
  · rename_i hw; simp [hw, h9]
theorem sentOk_mk {s : State} {i : Nat} (h1 : (s.sent.getD i default).ok = true) (h2 : (s.sent.getD i default).seq = (i : Int) + 1) (h3 : s.live.getD i false = false ∨ s.back.getD i false = false) (h4 : (s.sent.getD i default).ver ≤ s.ver) : s.sentOk i = true := by
  simpa [-List.getD_eq_getElem?_getD, State.sentOk] using ⟨h1, h2, h3, h4⟩
theorem getD_set {α : Type} (l : List α) (i j : Nat) (v d : α) : (l.set i v).getD j d = if i = j ∧ i < l.length then v else l.getD j d := by
  simp only [List.getD, List.getElem?_set]
  by_cases h : i = j
  · subst h
    by_cases h2 : i < l.length
    · simp [h2]
    · have : l[i]? = none := List.getElem?_eq_none (by omega)
      simp [h2, this]
  · simp [h]
theorem getD_snoc {α : Type} (l : List α) (v d : α) (j : Nat) (hj : j < l.length + 1) : (l ++ [v]).getD j d = if j < l.length then l.getD j d else v := by
  simp only [List.getD, List.getElem?_append]
  by_cases h : j < l.length
  · simp [h]
  · have : j = l.length := by omega
    subst this; simp
theorem knows_iff {l : List Int} : (∀ i, i < l.length → knowOk l i = true) ↔ (∀ x ∈ l, 1 ≤ x ∧ x ≤ 90) ∧ l.Pairwise (· < ·) := by
  constructor
  · intro h
    have hstep : ∀ i, i + 1 < l.length → l.getD i 0 < l.getD (i + 1) 0 := by
      intro i hi
      have h2 := h (i + 1) hi
      have e : (((i + 1 : Nat) : Int) - 1).toNat = i := by omega
      simp only [knowOk, e, Bool.and_eq_true, In_iff, Bool.not_eq_true', Bool.and_eq_false_iff, decide_eq_false_iff_not] at h2
      omega
    have hlt : ∀ i k, i + k + 1 < l.length → l.getD i 0 < l.getD (i + k + 1) 0 := by
      intro i k
      induction k with
      | zero => intro hi; exact hstep i hi
      | succ k ih =>
        intro hi
        have := ih (by omega)
        have := hstep (i + k + 1) (by omega)
        rw [show i + (k + 1) + 1 = i + k + 1 + 1 from by omega]
        omega
    refine ⟨?_, ?_⟩
    · intro x hx
      obtain ⟨i, hi, e⟩ := List.getElem_of_mem hx
      have := h i hi
      simp only [knowOk, Bool.and_eq_true, In_iff] at this
      have e2 : l.getD i 0 = x := by simp [List.getD, hi, e]
      omega
    · rw [List.pairwise_iff_getElem]
      intro i j hi hj hij
      have := hlt i (j - i - 1) (by omega)
      rw [show i + (j - i - 1) + 1 = j from by omega] at this
      simpa [List.getD, hi, hj] using this
  · rintro ⟨h1, h2⟩ i hi
    have e : l.getD i 0 = l[i] := by simp [List.getD, hi]
    simp only [knowOk, Bool.and_eq_true, In_iff, Bool.not_eq_true', Bool.and_eq_false_iff, decide_eq_false_iff_not]
    refine ⟨by rw [e]; exact h1 _ (List.getElem_mem hi), ?_⟩
    by_cases h0 : i = 0
    · left; omega
    · right
      have e2 : ((i : Int) - 1).toNat = i - 1 := by omega
      rw [e2]
      have e3 : l.getD (i - 1) 0 = l[i - 1] := by simp [List.getD, show i - 1 < l.length from by omega]
      rw [e, e3]
      have := List.pairwise_iff_getElem.1 h2 (i - 1) i (by omega) hi (by omega)
      omega
theorem chain_iff {c : Chain} : c.ok = true ↔ (1 ≤ c.id ∧ c.id ≤ 2) ∧ c.bank.ok = true ∧ c.state.ok = true ∧ c.past.length ≤ 90 ∧ (∀ i, i < c.past.length → (c.past.getD i default).ok = true) ∧ (∀ i, i < c.knows.length → knowOk c.knows i = true) := by
  refine ⟨chain_ok, ?_⟩
  rintro ⟨h1, h2, h3, h4, h5, h6⟩
  simp only [Chain.ok, Bool.and_eq_true, decide_eq_true_eq, In_iff, rall_iff]
  exact ⟨h1, h2, h3, by omega, h5, h6⟩

theorem block_ok {c : Chain} (h : c.ok = true) : c.block.ok = true := by
  unfold Chain.block
  split
  · rw [chain_iff] at *
    obtain ⟨h1, h2, h3, h4, h5, h6⟩ := h
    refine ⟨h1, h2, h3, by simp; omega, fun i hi => ?_, h6⟩
    simp at hi
    rw [getD_snoc _ _ _ _ hi]
    split
    · exact h5 i ‹_›
    · exact h3
  · exact h
theorem know_ok {c o : Chain} {x : Int} (h : c.ok = true) (ho : o.past.length ≤ 90) : (c.know o x).ok = true := by
  unfold Chain.know
  split
  · rename_i hB
    simp only [Chain.knowB, Bool.and_eq_true, In_iff, Bool.not_eq_true'] at hB
    rw [chain_iff] at *
    obtain ⟨h1, h2, h3, h4, h5, h6⟩ := h
    refine ⟨h1, h2, h3, h4, h5, ?_⟩
    rw [knows_iff] at *
    obtain ⟨g1, g2⟩ := h6
    refine ⟨?_, ?_⟩
    · intro y hy
      simp only [List.mem_append, List.mem_cons, List.mem_filter] at hy
      rcases hy with hy | rfl | hy
      · exact g1 y hy.1
      · omega
      · exact g1 y hy.1
    · rw [List.pairwise_append]
      refine ⟨g2.sublist List.filter_sublist, ?_, ?_⟩
      · rw [List.pairwise_cons]
        refine ⟨fun y hy => ?_, g2.sublist List.filter_sublist⟩
        simpa using (List.mem_filter.1 hy).2
      · intro y hy z hz
        have hy' : y < x := by simpa using (List.mem_filter.1 hy).2
        rcases List.mem_cons.1 hz with rfl | hz
        · exact hy'
        · have hz' : x < z := by simpa using (List.mem_filter.1 hz).2
          omega
  · exact h
theorem send_ok {c : Chain} {kind src dst sum till : Int} (h : c.ok = true) : (c.send kind src dst sum till).ok = true := by
  unfold Chain.send
  split
  · rename_i hB
    simp only [Chain.sendB, Bool.and_eq_true, decide_eq_true_eq] at hB
    obtain ⟨hw, hp, hA⟩ := hB
    have hp' := packet_iff.1 hp
    simp only [Chain.packet] at hp'
    rw [chain_iff] at *
    obtain ⟨h1, h2, h3, h4, h5, h6⟩ := h
    refine ⟨h1, awayD_ok h2 (by rw [In_iff]; omega) (by omega) hA, ?_, h4, h5, h6⟩
    rw [state_iff] at *
    obtain ⟨r1, r2, r3, r4, r5, r6, r7, r8, r9⟩ := h3
    refine ⟨r1, r2, by simp [Chain.sendD]; omega, by simp [Chain.sendD, r4], by simp [Chain.sendD, r5], r6, ?_, r8, r9⟩
    intro i hi
    simp [Chain.sendD] at hi
    have g1 : (c.sendD kind src dst sum till).state.sent.getD i default = if i < c.state.sent.length then c.state.sent.getD i default else c.packet kind src dst sum till := getD_snoc _ _ _ _ hi
    have g2 : (c.sendD kind src dst sum till).state.live.getD i false = if i < c.state.live.length then c.state.live.getD i false else true := getD_snoc _ _ _ _ (by omega)
    have g3 : (c.sendD kind src dst sum till).state.back.getD i false = if i < c.state.back.length then c.state.back.getD i false else false := getD_snoc _ _ _ _ (by omega)
    have g4 : (c.sendD kind src dst sum till).state.ver = c.state.ver := rfl
    by_cases hl : i < c.state.sent.length
    · obtain ⟨s1, s2, s3, s4⟩ := sentOk_iff (r7 i hl)
      rw [if_pos hl] at g1; rw [if_pos (by omega)] at g2 g3
      exact sentOk_mk (by rw [g1]; exact s1) (by rw [g1]; exact s2) (by rw [g2, g3]; exact s3) (by rw [g1, g4]; exact s4)
    · rw [if_neg hl] at g1; rw [if_neg (by omega)] at g2 g3
      refine sentOk_mk (by rw [g1]; exact hp) (by rw [g1]; simp only [Chain.packet]; omega) (.inr g3) (by rw [g1, g4]; simp [Chain.packet])
  · exact h
theorem otherK_in {k : Int} (h : 1 ≤ k ∧ k ≤ 2) : In (otherK k) 1 2 = true := by rw [In_iff]; unfold otherK; split <;> omega
theorem get_ok {c : Chain} {s : State} {p : Packet} (h : c.ok = true) (hp : p.ok = true) : (c.get s p).ok = true := by
  unfold Chain.get
  split
  · have hp' := packet_iff.1 hp
    rw [chain_iff] at *
    obtain ⟨h1, h2, h3, h4, h5, h6⟩ := h
    refine ⟨h1, ?_, ?_, h4, h5, h6⟩
    · show (if payB c.bank p then _ else _ : Bank).ok = true
      split
      · rename_i hb
        simp only [payB, Bool.and_eq_true, decide_eq_true_eq] at hb
        exact backD_ok h2 (by rw [In_iff]; omega) (otherK_in hp'.2.1) (by omega) hb.2
      · exact h2
    · rw [state_iff] at *
      obtain ⟨r1, r2, r3, r4, r5, r6, r7, r8, r9⟩ := h3
      refine ⟨r1, r2, r3, r4, r5, by simp [Chain.getD, r6], r7, ?_, r9⟩
      intro i hi
      show 0 ≤ (c.state.got.set _ _).getD i 0 ∧ (c.state.got.set _ _).getD i 0 ≤ 2
      rw [getD_set]
      split
      · split <;> omega
      · exact r8 i hi
  · exact h
theorem settle_ok {c : Chain} {seq : Int} {bk : Bool} (h : c.ok = true) (hm : c.mine seq = true) : (c.settle seq bk).ok = true := by
  simp only [Chain.mine, Bool.and_eq_true, In_iff] at hm
  rw [chain_iff] at *
  obtain ⟨h1, h2, h3, h4, h5, h6⟩ := h
  have h3' := h3
  rw [state_iff] at h3'
  obtain ⟨r1, r2, r3, r4, r5, r6, r7, r8, r9⟩ := h3'
  obtain ⟨s1, s2, s3, s4⟩ := sentOk_iff (r7 (seq - 1).toNat (by omega))
  have hp := packet_iff.1 s1
  refine ⟨h1, ?_, ?_, h4, h5, h6⟩
  · show (if bk then c.bank.refund (c.sentAt seq) else c.bank).ok = true
    split
    · exact back_ok h2 (by rw [In_iff]; exact hp.2.2.1) (by rw [In_iff]; exact hp.2.1) (by have := hp.2.2.2.2.1; simp only [Chain.sentAt]; omega)
    · exact h2
  · rw [state_iff]
    refine ⟨r1, r2, r3, by simp [Chain.settle, r4], ?_, r6, ?_, r8, r9⟩
    · show (if bk then c.state.back.set _ true else c.state.back).length = _
      split <;> simp [r5, Chain.settle]
    · intro i hi
      obtain ⟨t1, t2, t3, t4⟩ := sentOk_iff (r7 i hi)
      refine sentOk_mk t1 t2 ?_ t4
      show (c.state.live.set _ false).getD i false = false ∨ (if bk then c.state.back.set _ true else c.state.back).getD i false = false
      rw [getD_set]
      by_cases e : (seq - 1).toNat = i ∧ (seq - 1).toNat < c.state.live.length
      · rw [if_pos e]; exact .inl rfl
      · rw [if_neg e]
        rcases t3 with t3 | t3
        · exact .inl t3
        · right
          split
          · rw [getD_set, if_neg (by omega)]; exact t3
          · exact t3
theorem tell_ok {c : Chain} {s : State} {seq : Int} (h : c.ok = true) : (c.tell s seq).ok = true := by
  unfold Chain.tell
  split
  · rename_i hB
    simp only [Chain.tellB, Bool.and_eq_true] at hB
    exact settle_ok h hB.1
  · exact h
theorem late_ok {c : Chain} {s : State} {x seq : Int} (h : c.ok = true) : (c.late s x seq).ok = true := by
  unfold Chain.late
  split
  · rename_i hB
    simp only [Chain.lateB, Bool.and_eq_true] at hB
    exact settle_ok h hB.1
  · exact h
theorem wayDo_ok {s o : State} {n : Int} (h : s.ok = true) (ho : o.ok = true) (hm : wayMay s o n = true) : (wayDo s o n).ok = true := by
  rw [state_iff] at *
  obtain ⟨r1, r2, r3, r4, r5, r6, r7, r8, r9⟩ := h
  obtain ⟨t1, t2, t3, t4, t5, t6, t7, t8, t9⟩ := ho
  unfold wayMay at hm
  unfold wayDo
  by_cases k1 : n = 1
  · subst k1
    have hw : s.way = 0 := by simpa using hm
    simp only [hw] at r9
    exact ⟨by simp, r2, r3, r4, r5, r6, r7, r8, by simpa using r9⟩
  by_cases k2 : n = 2
  · subst k2
    have hw : s.way ≤ 1 := by simp at hm; exact hm.1
    rw [if_neg (by omega)] at r9
    exact ⟨by simp, r2, r3, r4, r5, r6, r7, r8, by simpa using r9⟩
  by_cases k3 : n = 3
  · subst k3
    have hw : s.way = 1 := by simp at hm; exact hm.1
    rw [if_neg (by omega)] at r9
    exact ⟨by simp, r2, r3, r4, r5, r6, r7, r8, by simpa using r9⟩
  by_cases k4 : n = 4
  · subst k4
    have hw : s.way = 2 := by simp at hm; exact hm.1
    rw [if_neg (by omega)] at r9
    exact ⟨by simp, r2, r3, r4, r5, r6, r7, r8, by simpa using r9⟩
  by_cases k5 : n = 5
  · subst k5
    have hw : s.way = 3 ∧ s.ver < 9 := by simpa using hm
    exact ⟨by simp, r2, r3, r4, r5, r6, r7, r8, by simp; omega⟩
  by_cases k6 : n = 6
  · subst k6
    have hw : s.way = 3 ∧ o.way = 4 ∧ o.want = s.ver + 1 := by simpa using hm
    rw [if_pos hw.2.1] at t9
    exact ⟨by simp, r2, r3, r4, r5, r6, r7, r8, by simp; omega⟩
  by_cases k7 : n = 7
  · subst k7
    have hw : s.way = 4 := by simp at hm; exact hm.1
    rw [if_pos hw] at r9
    refine ⟨by simp, by simp; omega, r3, r4, r5, r6, ?_, r8, by simp⟩
    intro i hi
    obtain ⟨a1, a2, a3, a4⟩ := sentOk_iff (r7 i hi)
    refine sentOk_mk a1 a2 a3 ?_
    show (s.sent.getD i default).ver ≤ s.want
    omega
  · simp [k1, k2, k3, k4, k5, k6, k7] at hm
theorem step_ok {c : Chain} {s : State} {n : Int} (h : c.ok = true) (hs : s.ok = true) : (c.step s n).ok = true := by
  unfold Chain.step
  split
  · rw [chain_iff] at *
    obtain ⟨h1, h2, h3, h4, h5, h6⟩ := h
    exact ⟨h1, h2, wayDo_ok h3 hs ‹_›, h4, h5, h6⟩
  · exact h
theorem move_ok {c : Chain} {kind src dst sum : Int} (h : c.ok = true) : (c.move kind src dst sum).ok = true := by
  unfold Chain.move
  split
  · rw [chain_iff] at *
    obtain ⟨h1, h2, h3, h4, h5, h6⟩ := h
    exact ⟨h1, moveD_ok ‹_›, h3, h4, h5, h6⟩
  · exact h
theorem relay_at {c o : Chain} {x : Int} (h : c.ok = true) (ho : o.ok = true) (hB : c.relayB o x = true) : 1 ≤ x ∧ x ≤ o.past.length ∧ (o.at x).ok = true := by
  simp only [Chain.relayB, Bool.and_eq_true, decide_eq_true_eq] at hB
  rw [chain_iff] at *
  obtain ⟨h1, h2, h3, h4, h5, h6⟩ := h
  obtain ⟨g1, g2, g3, g4, g5, g6⟩ := ho
  have hm : x ∈ c.knows := by simpa using hB.1
  have := (knows_iff.1 h6).1 x hm
  exact ⟨by omega, hB.2, g5 _ (by omega)⟩
theorem on_ok {c o : Chain} {e : Event} (h : c.ok = true) (ho : o.ok = true) : (c.on o e).ok = true := by
  have ho' := ho
  rw [chain_iff] at ho'
  unfold Chain.on
  split; · exact block_ok h
  split; · exact know_ok h ho'.2.2.2.1
  split; · exact send_ok h
  split; · exact move_ok h
  split; · exact step_ok h (by decide)
  unfold Chain.relay
  split
  · rename_i hB
    obtain ⟨x1, x2, x3⟩ := relay_at h ho hB
    split
    · split
      · exact get_ok h ‹_›
      · exact h
    split; · exact tell_ok h
    split; · exact late_ok h
    split; · exact step_ok h x3
    exact h
  · exact h
theorem two_on_ok {w : Two} {e : Event} (h : w.a.ok = true ∧ w.b.ok = true) : (w.on e).a.ok = true ∧ (w.on e).b.ok = true := by
  unfold Two.on
  split
  · exact ⟨on_ok h.1 h.2, h.2⟩
  split
  · exact ⟨h.1, on_ok h.2 h.1⟩
  · exact h
theorem two_new_ok : Two.new.a.ok = true ∧ Two.new.b.ok = true := by decide
end Go.Hw
/- Plain: what a chain knows of the other one stays ok. -/
set_option linter.all false
namespace Go.Hw
def kAll (c o : Chain) : Prop := ∀ x ∈ c.knows, x ≤ (o.past.length : Int)
theorem kOk_iff {c o : Chain} (h : c.knows.Pairwise (· < ·)) : kOk c o = true ↔ kAll c o := by
  unfold kOk kAll
  simp only [Bool.not_eq_true', Bool.and_eq_false_iff, decide_eq_false_iff_not]
  generalize c.knows = l at h
  constructor
  · intro h1 x hx
    obtain ⟨i, hi, rfl⟩ := List.mem_iff_getElem.1 hx
    have e : l.getD ((l.length : Int) - 1).toNat 0 = l[l.length - 1] := by
      have : ((l.length : Int) - 1).toNat = l.length - 1 := by omega
      rw [this]; unfold List.getD; rw [List.getElem?_eq_getElem (by omega)]; rfl
    rw [e] at h1
    have h2 : l[l.length - 1] ≤ (o.past.length : Int) := by omega
    by_cases hl : i = l.length - 1
    · subst hl; exact h2
    · have := List.pairwise_iff_getElem.1 h i (l.length - 1) hi (by omega) (by omega)
      omega
  · intro h1
    by_cases h0 : 0 < l.length
    · right
      have e : l.getD ((l.length : Int) - 1).toNat 0 = l[l.length - 1] := by
        have : ((l.length : Int) - 1).toNat = l.length - 1 := by omega
        rw [this]; unfold List.getD; rw [List.getElem?_eq_getElem (by omega)]; rfl
      rw [e]
      have := h1 _ (List.getElem_mem (l := l) (n := l.length - 1) (by omega))
      omega
    · left; omega
theorem step_past {c : Chain} {s : State} {n : Int} : (c.step s n).past = c.past ∧ (c.step s n).knows = c.knows ∧ (c.step s n).id = c.id := by
  unfold Chain.step; split <;> exact ⟨rfl, rfl, rfl⟩
theorem on_past {c o : Chain} {e : Event} : (c.on o e).id = c.id ∧ ((c.on o e).past = c.past ∨ (e.kind = 1 ∧ (c.on o e).past = c.past ++ [c.state])) ∧ ((c.on o e).knows = c.knows ∨ c.knowB o e.height = true ∧ (c.on o e).knows = c.knows.filter (fun x => decide (x < e.height)) ++ e.height :: c.knows.filter (fun x => decide (e.height < x))) := by
  unfold Chain.on
  split
  · unfold Chain.block; split <;> simp [*]
  split
  · unfold Chain.know; split
    · exact ⟨rfl, .inl rfl, .inr ⟨by assumption, rfl⟩⟩
    · exact ⟨rfl, .inl rfl, .inl rfl⟩
  split
  · unfold Chain.send; split <;> exact ⟨rfl, .inl rfl, .inl rfl⟩
  split
  · unfold Chain.move; split <;> exact ⟨rfl, .inl rfl, .inl rfl⟩
  split
  · exact ⟨step_past.2.2, .inl step_past.1, .inl step_past.2.1⟩
  unfold Chain.relay
  split
  · split
    · split
      · unfold Chain.get; split <;> exact ⟨rfl, .inl rfl, .inl rfl⟩
      · exact ⟨rfl, .inl rfl, .inl rfl⟩
    split
    · unfold Chain.tell; split <;> exact ⟨rfl, .inl rfl, .inl rfl⟩
    split
    · unfold Chain.late; split <;> exact ⟨rfl, .inl rfl, .inl rfl⟩
    split
    · exact ⟨step_past.2.2, .inl step_past.1, .inl step_past.2.1⟩
    · exact ⟨rfl, .inl rfl, .inl rfl⟩
  · exact ⟨rfl, .inl rfl, .inl rfl⟩
theorem on_past_len {c o : Chain} {e : Event} : c.past.length ≤ (c.on o e).past.length := by
  rcases (on_past (c := c) (o := o) (e := e)).2.1 with h | ⟨_, h⟩ <;> rw [h]
  · exact Nat.le_refl _
  · simp
theorem on_kAll {c o : Chain} {e : Event} (h : kAll c o) : kAll (c.on o e) o := by
  rcases (on_past (c := c) (o := o) (e := e)).2.2 with h2 | ⟨hb, h2⟩ <;> unfold kAll <;> rw [h2]
  · exact h
  · intro x hx
    simp only [List.mem_append, List.mem_cons, List.mem_filter] at hx
    rcases hx with hx | rfl | hx
    · exact h x hx.1
    · unfold Chain.knowB at hb
      simp only [Bool.and_eq_true, In_iff] at hb
      exact hb.1.2
    · exact h x hx.1
theorem kAll_mono {c o o' : Chain} (h : kAll c o) (hl : o.past.length ≤ o'.past.length) : kAll c o' := fun x hx => by have := h x hx; omega
theorem wOk_iff {a b : Chain} : wOk [a, b] = true ↔ a.ok = true ∧ b.ok = true ∧ a.id = 1 ∧ b.id = 2 ∧ kAll a b ∧ kAll b a := by
  have e : wOk [a, b] = true ↔ a.ok = true ∧ a.id = 1 ∧ kOk a b = true ∧ b.ok = true ∧ b.id = 2 ∧ kOk b a = true := by
    simp [wOk, List.getD]
  rw [e]
  constructor
  · rintro ⟨h1, h2, h3, h4, h5, h6⟩
    have p1 := (knows_iff.1 (chain_iff.1 h1).2.2.2.2.2).2
    have p2 := (knows_iff.1 (chain_iff.1 h4).2.2.2.2.2).2
    exact ⟨h1, h4, h2, h5, (kOk_iff p1).1 h3, (kOk_iff p2).1 h6⟩
  · rintro ⟨h1, h2, h3, h4, h5, h6⟩
    have p1 := (knows_iff.1 (chain_iff.1 h1).2.2.2.2.2).2
    have p2 := (knows_iff.1 (chain_iff.1 h2).2.2.2.2.2).2
    exact ⟨h1, h3, (kOk_iff p1).2 h5, h2, h4, (kOk_iff p2).2 h6⟩
theorem two_on_wOk {w : Two} {e : Event} (h : wOk w.list = true) : wOk (w.on e).list = true := by
  obtain ⟨h1, h2, h3, h4, h5, h6⟩ := wOk_iff.1 h
  have ho := two_on_ok (w := w) (e := e) ⟨h1, h2⟩
  refine wOk_iff.2 ⟨ho.1, ho.2, ?_⟩
  unfold Two.on
  split
  · exact ⟨by rw [on_past.1]; exact h3, h4, on_kAll h5, kAll_mono h6 on_past_len⟩
  split
  · exact ⟨h3, by rw [on_past.1]; exact h4, kAll_mono h5 on_past_len, on_kAll h6⟩
  · exact ⟨h3, h4, h5, h6⟩
theorem two_new_wOk : wOk Two.new.list = true := by decide
theorem two_play_wOk (es : List Event) : wOk (Two.new.play es).list = true := by
  have : ∀ (es : List Event) (w : Two), wOk w.list = true → wOk (w.play es).list = true := by
    intro es
    induction es with
    | nil => intro w h; exact h
    | cons e es ih => intro w h; exact ih _ (two_on_wOk h)
  exact this es _ two_new_wOk
end Go.Hw
/- Plain: what stays so of two chains in every play: states only go on, what is known of the other one was so, what came is not given back. -/
set_option linter.all false
namespace Go.Hw
/-- What a state may turn into. -/
structure Mono (a b : State) : Prop where
  ver : a.ver ≤ b.ver
  way : b.ver = a.ver → a.way ≤ b.way
  opn : 3 ≤ a.way → 3 ≤ b.way
  tri : 2 ≤ a.way → 2 ≤ b.way
  len : a.sent.length ≤ b.sent.length
  sent : ∀ n, n < a.sent.length → b.sent.getD n default = a.sent.getD n default
  live : ∀ n, n < a.sent.length → b.live.getD n false = true → a.live.getD n false = true
  back : ∀ n, n < a.sent.length → a.back.getD n false = true → b.back.getD n false = true
  got : ∀ n, a.got.getD n 0 ≠ 0 → b.got.getD n 0 = a.got.getD n 0
  shut : 4 ≤ a.way → b.ver = a.ver → b.sent.length = a.sent.length
theorem Mono.refl (a : State) : Mono a a :=
  ⟨Int.le_refl _, fun _ => Int.le_refl _, id, id, Nat.le_refl _, fun _ _ => rfl, fun _ _ h => h, fun _ _ h => h, fun _ _ => rfl, fun _ _ => rfl⟩
theorem Mono.trans {a b c : State} (h : Mono a b) (g : Mono b c) : Mono a c where
  ver := Int.le_trans h.ver g.ver
  way := fun e => by
    have h1 := h.ver; have h2 := g.ver
    have := h.way (by omega); have := g.way (by omega); omega
  opn := fun e => g.opn (h.opn e)
  tri := fun e => g.tri (h.tri e)
  len := Nat.le_trans h.len g.len
  sent := fun n hn => by rw [g.sent n (Nat.lt_of_lt_of_le hn h.len), h.sent n hn]
  live := fun n hn e => h.live n hn (g.live n (Nat.lt_of_lt_of_le hn h.len) e)
  back := fun n hn e => g.back n (Nat.lt_of_lt_of_le hn h.len) (h.back n hn e)
  got := fun n e => by rw [g.got n (by rw [h.got n e]; exact e), h.got n e]
  shut := fun e e2 => by
    have h1 := h.ver; have h2 := g.ver
    have h3 := h.way (by omega)
    rw [g.shut (by omega) (by omega), h.shut e (by omega)]
theorem mono_new {s : State} (h : s.ok = true) : Mono State.new s := by
  obtain ⟨r1, r2, r3, r4, r5, r6, r7, r8, r9⟩ := state_ok h
  refine ⟨r2.1, fun _ => r1.1, fun e => ?_, fun e => ?_, Nat.zero_le _, fun n hn => ?_, fun n hn => ?_, fun n hn => ?_, fun n e => ?_, fun e => ?_⟩
  · exact absurd e (by decide)
  · exact absurd e (by decide)
  · exact absurd hn (Nat.not_lt_zero _)
  · exact absurd hn (Nat.not_lt_zero _)
  · exact absurd hn (Nat.not_lt_zero _)
  · exfalso; apply e
    show (List.replicate 8 (0 : Int)).getD n 0 = 0
    simp only [List.getD, List.getElem?_replicate]; split <;> rfl
  · exact absurd e (by decide)

theorem getD_len {α : Type} {l : List α} {n : Nat} {d : α} (h : l.length ≤ n) : l.getD n d = d := by
  simp [List.getD, List.getElem?_eq_none h]
theorem lives_zero {s : State} (h : s.lives = 0) (n : Nat) : s.live.getD n false = false := by
  unfold State.lives liveN at h
  have h' : s.live.filter id = [] := List.eq_nil_of_length_eq_zero h
  by_cases hn : n < s.live.length
  · cases e : s.live.getD n false with
    | false => rfl
    | true =>
      have hm : s.live.getD n false ∈ s.live := by simp only [List.getD, List.getElem?_eq_getElem hn, Option.getD_some]; exact List.getElem_mem hn
      have := (List.mem_filter (p := id)).2 ⟨hm, e⟩
      rw [h'] at this; cases this
  · exact getD_len (by omega)

/-- The steps of a way, one by one. -/
theorem step_cases {s o : State} {n : Int} (hs : s.ok = true) (hm : wayMay s o n = true) :
    (wayDo s o n).sent = s.sent ∧ (wayDo s o n).live = s.live ∧ (wayDo s o n).back = s.back ∧ (wayDo s o n).got = s.got ∧
    (((wayDo s o n).ver = s.ver ∧ s.way ≤ (wayDo s o n).way ∧ s.way < 4 ∧ (3 ≤ (wayDo s o n).way → 3 ≤ s.way ∨ 2 ≤ o.way)) ∨
     ((wayDo s o n).ver = s.ver + 1 ∧ s.way = 4 ∧ (wayDo s o n).way = 3 ∧ s.lives = 0 ∧ ((o.way = 4 ∧ o.want = s.ver + 1 ∧ o.lives = 0) ∨ o.ver = s.ver + 1))) := by
  obtain ⟨r1, r2, r3, r4, r5, r6, r7, r8, r9⟩ := state_ok hs
  unfold wayMay at hm
  unfold wayDo
  by_cases k1 : n = 1
  · subst k1
    have hw : s.way = 0 := by simpa using hm
    refine ⟨by simp, by simp, by simp, by simp, .inl ?_⟩; simp [hw]
  by_cases k2 : n = 2
  · subst k2
    have hw : s.way ≤ 1 := by simp at hm; exact hm.1
    refine ⟨by simp, by simp, by simp, by simp, .inl ?_⟩; simp; omega
  by_cases k3 : n = 3
  · subst k3
    have hw : s.way = 1 ∧ 2 ≤ o.way := by simpa using hm
    refine ⟨by simp, by simp, by simp, by simp, .inl ?_⟩; simp; omega
  by_cases k4 : n = 4
  · subst k4
    have hw : s.way = 2 ∧ 2 ≤ o.way := by simpa using hm
    refine ⟨by simp, by simp, by simp, by simp, .inl ?_⟩; simp; omega
  by_cases k5 : n = 5
  · subst k5
    have hw : s.way = 3 ∧ s.ver < 9 := by simpa using hm
    refine ⟨by simp, by simp, by simp, by simp, .inl ?_⟩; simp; omega
  by_cases k6 : n = 6
  · subst k6
    have hw : s.way = 3 ∧ o.way = 4 ∧ o.want = s.ver + 1 := by simpa using hm
    refine ⟨by simp, by simp, by simp, by simp, .inl ?_⟩; simp; omega
  by_cases k7 : n = 7
  · subst k7
    have hw : s.way = 4 ∧ s.lives = 0 ∧ ((o.way = 4 ∧ o.want = s.want ∧ o.lives = 0) ∨ o.ver = s.want) := by
      simp at hm; exact hm
    rw [if_pos hw.1] at r9
    refine ⟨by simp, by simp, by simp, by simp, .inr ⟨by simp; omega, hw.1, by simp, hw.2.1, ?_⟩⟩
    rcases hw.2.2 with h | h
    · exact .inl ⟨h.1, by omega, h.2.2⟩
    · exact .inr (by omega)
  · simp [k1, k2, k3, k4, k5, k6, k7] at hm

/-- What an event does to a state: nothing, or one of these. -/
inductive Turn (c o : Chain) (s' : State) : Prop where
  | same (h : s' = c.state)
  | send (p : Packet) (hw : c.state.way = 3) (hp : p.ver = c.state.ver) (h : s' = { c.state with sent := c.state.sent ++ [p], live := c.state.live ++ [true], back := c.state.back ++ [false] })
  | step (q : State) (n : Int) (hq : q = State.new ∨ q ∈ o.past) (hk : q = State.new → n = 1 ∨ n = 5) (hm : wayMay c.state q n = true) (h : s' = wayDo c.state q n)
  | get (q : State) (i : Nat) (p : Packet) (v : Int) (hq : q ∈ o.past) (hv : v = 1 ∨ v = 2) (hi : i < q.sent.length) (hp : q.sent.getD i default = p) (hl : q.live.getD i false = true) (h0 : c.state.got.getD i 0 = 0)
      (hver : p.ver = c.state.ver) (ht : (c.past.length : Int) + 1 < p.till) (hw : 3 ≤ c.state.way) (h : s' = { c.state with got := c.state.got.set i v })
  | told (q : State) (i : Nat) (b : Bool) (hq : q ∈ o.past) (hi : i < c.state.sent.length) (hl : c.state.live.getD i false = true) (hg : q.got.getD i 0 ≠ 0) (hb : b = decide (q.got.getD i 0 = 2))
      (h : s' = { c.state with live := c.state.live.set i false, back := if b then c.state.back.set i true else c.state.back })
  | late (k i : Nat) (hk : k < o.past.length) (hi : i < c.state.sent.length) (hl : c.state.live.getD i false = true) (hg : (o.past.getD k default).got.getD i 0 = 0) (ht : (c.state.sent.getD i default).till ≤ (k : Int) + 1)
      (h : s' = { c.state with live := c.state.live.set i false, back := c.state.back.set i true })

theorem getD_mem {α : Type} {l : List α} {n : Nat} {d : α} (h : n < l.length) : l.getD n d ∈ l := by
  simp only [List.getD, List.getElem?_eq_getElem h, Option.getD_some]; exact List.getElem_mem h

theorem step_turn {c o : Chain} {q : State} {n : Int} (hq : q = State.new ∨ q ∈ o.past) (hk : q = State.new → n = 1 ∨ n = 5 ∨ q ∈ o.past) : (c.step q n).state = c.state ∨ (wayMay c.state q n = true ∧ (c.step q n).state = wayDo c.state q n) := by
  unfold Chain.step
  split
  · exact .inr ⟨‹_›, rfl⟩
  · exact .inl rfl
theorem wayMay_new {s : State} {n : Int} (hm : wayMay s State.new n = true) (hs : s.ok = true) : n = 1 ∨ n = 5 ∨ False := by
  obtain ⟨r1, r2, r3, r4, r5, r6, r7, r8, r9⟩ := state_ok hs
  unfold wayMay at hm
  by_cases k1 : n = 1
  · exact .inl k1
  by_cases k5 : n = 5
  · exact .inr (.inl k5)
  exfalso
  have e1 : State.new.way = 0 := rfl
  have e2 : State.new.ver = 1 := rfl
  have e3 : State.new.want = 0 := rfl
  by_cases k2 : n = 2
  · subst k2; simp [e1] at hm
  by_cases k3 : n = 3
  · subst k3; simp [e1] at hm
  by_cases k4 : n = 4
  · subst k4; simp [e1] at hm
  by_cases k6 : n = 6
  · subst k6; simp [e1] at hm
  by_cases k7 : n = 7
  · subst k7; simp [e1, e2] at hm
    rw [if_pos hm.1] at r9; omega
  · simp [k1, k2, k3, k4, k5, k6, k7] at hm

theorem on_turn {c o : Chain} {e : Event} (h : c.ok = true) (ho : o.ok = true) : Turn c o (c.on o e).state := by
  have hs : c.state.ok = true := (chain_ok h).2.2.1
  unfold Chain.on
  split
  · unfold Chain.block; split <;> exact .same rfl
  split
  · unfold Chain.know; split <;> exact .same rfl
  split
  · unfold Chain.send
    split
    · rename_i hB
      simp only [Chain.sendB, Bool.and_eq_true, decide_eq_true_eq] at hB
      exact .send (c.packet e.packet.kind e.packet.src e.packet.dst e.packet.sum e.packet.till) hB.1 rfl rfl
    · exact .same rfl
  split
  · unfold Chain.move; split <;> exact .same rfl
  split
  · rename_i g
    unfold Chain.step
    split
    · exact .step State.new e.n (.inl rfl) (fun _ => g.2) ‹_› rfl
    · exact .same rfl
  unfold Chain.relay
  split
  · rename_i hB
    obtain ⟨x1, x2, x3⟩ := relay_at h ho hB
    have hmem : o.at e.height ∈ o.past := getD_mem (by omega)
    split
    · split
      · rename_i hp
        unfold Chain.get
        split
        · rename_i hg
          simp only [Chain.getB, State.hasB, State.gotAt, Bool.and_eq_true, In_iff] at hg
          obtain ⟨g1, ⟨⟨g2, g3⟩, g4, g5⟩, g6, g7, g8⟩ := hg
          refine .get (o.at e.height) (e.packet.seq - 1).toNat e.packet _ hmem ?_ (by omega) (of_decide_eq_true g4) g5 (of_decide_eq_true g6) (of_decide_eq_true g7) (of_decide_eq_true g8) (of_decide_eq_true g1) rfl
          split
          · exact .inl rfl
          · exact .inr rfl
        · exact .same rfl
      · exact .same rfl
    split
    · unfold Chain.tell
      split
      · rename_i hg
        simp only [Chain.tellB, Chain.mine, State.gotAt, Bool.and_eq_true, In_iff] at hg
        exact .told (o.at e.height) (e.n - 1).toNat _ hmem (by omega) hg.1.2 (of_decide_eq_true hg.2) rfl rfl
      · exact .same rfl
    split
    · unfold Chain.late
      split
      · rename_i hg
        simp only [Chain.lateB, Chain.mine, State.gotAt, Chain.sentAt, Bool.and_eq_true, In_iff] at hg
        have ht := of_decide_eq_true hg.2.1
        refine .late (e.height - 1).toNat (e.n - 1).toNat (by omega) (by omega) hg.1.2 (of_decide_eq_true hg.2.2) (by omega) rfl
      · exact .same rfl
    split
    · unfold Chain.step
      split
      · rename_i hm
        refine .step (o.at e.height) e.n (.inr hmem) (fun e0 => ?_) hm rfl
        rw [e0] at hm
        rcases wayMay_new hm hs with h | h | h
        · exact .inl h
        · exact .inr h
        · exact h.elim
      · exact .same rfl
    · exact .same rfl
  · exact .same rfl

theorem turn_mono {c o : Chain} {s' : State} (hs : c.state.ok = true) (t : Turn c o s') : Mono c.state s' := by
  obtain ⟨r1, r2, r3, r4, r5, r6, r7, r8, r9⟩ := state_ok hs
  cases t with
  | same h => rw [h]; exact Mono.refl _
  | send p hw hp h =>
    subst h
    refine ⟨Int.le_refl _, fun _ => Int.le_refl _, id, id, by simp, fun n hn => ?_, fun n hn e => ?_, fun n hn e => ?_, fun _ _ => rfl, fun e => ?_⟩
    · show (c.state.sent ++ [p]).getD n default = _
      rw [getD_snoc _ _ _ _ (by omega), if_pos hn]
    · have e : (c.state.live ++ [true]).getD n false = true := e
      rw [getD_snoc _ _ _ _ (by omega), if_pos (by omega)] at e; exact e
    · show (c.state.back ++ [false]).getD n false = true
      rw [getD_snoc _ _ _ _ (by omega), if_pos (by omega)]; exact e
    · omega
  | step q n hq hk hm h =>
    subst h
    obtain ⟨e1, e2, e3, e4, e5⟩ := step_cases hs hm
    refine ⟨?_, ?_, ?_, ?_, by rw [e1]; exact Nat.le_refl _, fun n hn => by rw [e1], fun n hn e => by rw [e2] at e; exact e, fun n hn e => by rw [e3]; exact e, fun n e => by rw [e4], fun _ _ => by rw [e1]⟩ <;> omega
  | get q i p v hq hv hi hp hl h0 hver ht hw h =>
    subst h
    refine ⟨Int.le_refl _, fun _ => Int.le_refl _, id, id, Nat.le_refl _, fun n hn => rfl, fun n hn e => e, fun n hn e => e, fun n e => ?_, fun _ _ => rfl⟩
    show (c.state.got.set i v).getD n 0 = _
    rw [getD_set, if_neg]
    rintro ⟨rfl, _⟩; exact e h0
  | told q i b hq hi hl hg hb h =>
    subst h
    refine ⟨Int.le_refl _, fun _ => Int.le_refl _, id, id, Nat.le_refl _, fun n hn => rfl, fun n hn e => ?_, fun n hn e => ?_, fun n e => rfl, fun _ _ => rfl⟩
    · have e : (c.state.live.set i false).getD n false = true := e
      rw [getD_set] at e
      split at e
      · cases e
      · exact e
    · show (if b then c.state.back.set i true else c.state.back).getD n false = true
      split
      · rw [getD_set]; split
        · rfl
        · exact e
      · exact e
  | late k i hk hi hl hg ht h =>
    subst h
    refine ⟨Int.le_refl _, fun _ => Int.le_refl _, id, id, Nat.le_refl _, fun n hn => rfl, fun n hn e => ?_, fun n hn e => ?_, fun n e => rfl, fun _ _ => rfl⟩
    · have e : (c.state.live.set i false).getD n false = true := e
      rw [getD_set] at e
      split at e
      · cases e
      · exact e
    · show (c.state.back.set i true).getD n false = true
      rw [getD_set]; split
      · rfl
      · exact e

/-- What stays so of one chain. -/
structure CInv (c : Chain) : Prop where
  pw : c.past.Pairwise Mono
  last : ∀ s ∈ c.past, Mono s c.state
  sv : c.state.sent.Pairwise (fun p q => p.ver ≤ q.ver)
  low : c.state.way < 3 → c.state.sent = [] ∧ c.state.ver = 1
  lv : ∀ n, n < c.state.sent.length → c.state.live.getD n false = true → (c.state.sent.getD n default).ver = c.state.ver

theorem on_cinv {c o : Chain} {e : Event} (h : c.ok = true) (ho : o.ok = true) (I : CInv c) : CInv (c.on o e) := by
  have hs : c.state.ok = true := (chain_ok h).2.2.1
  obtain ⟨r1, r2, r3, r4, r5, r6, r7, r8, r9⟩ := state_ok hs
  have t := on_turn (e := e) h ho
  have m := turn_mono hs t
  have hp := (on_past (c := c) (o := o) (e := e)).2.1
  have hlast : ∀ s ∈ (c.on o e).past, Mono s (c.on o e).state := by
    intro s hsm
    rcases hp with hp | ⟨_, hp⟩
    · rw [hp] at hsm; exact (I.last s hsm).trans m
    · rw [hp] at hsm
      rcases List.mem_append.1 hsm with hsm | hsm
      · exact (I.last s hsm).trans m
      · have : s = c.state := by simpa using hsm
        rw [this]; exact m
  have hpw : (c.on o e).past.Pairwise Mono := by
    rcases hp with hp | ⟨_, hp⟩
    · rw [hp]; exact I.pw
    · rw [hp, List.pairwise_append]
      refine ⟨I.pw, by simp, fun a ha b hb => ?_⟩
      have : b = c.state := by simpa using hb
      rw [this]; exact I.last a ha
  refine ⟨hpw, hlast, ?_, ?_, ?_⟩
  · cases t with
    | same h => rw [h]; exact I.sv
    | send p hw hp h =>
      rw [h]
      show (c.state.sent ++ [p]).Pairwise _
      rw [List.pairwise_append]
      refine ⟨I.sv, by simp, fun a ha b hb => ?_⟩
      have : b = p := by simpa using hb
      rw [this, hp]
      obtain ⟨i, hi, rfl⟩ := List.mem_iff_getElem.1 ha
      have := (sentOk_iff (r7 i hi)).2.2.2
      simpa [List.getD, hi] using this
    | step q n hq hk hm h => rw [h, (step_cases hs hm).1]; exact I.sv
    | get q i p v hq hv hi hp hl h0 hver ht hw h => rw [h]; exact I.sv
    | told q i b hq hi hl hg hb h => rw [h]; exact I.sv
    | late k i hk hi hl hg ht h => rw [h]; exact I.sv
  · intro hw
    have hw3 : c.state.way < 3 := by
      have := m.opn; omega
    obtain ⟨l1, l2⟩ := I.low hw3
    cases t with
    | same h => rw [h]; exact ⟨l1, l2⟩
    | send p hw' hp h => omega
    | step q n hq hk hm h =>
      rw [h] at hw ⊢
      obtain ⟨e1, e2, e3, e4, e5⟩ := step_cases hs hm
      rw [e1]; refine ⟨l1, ?_⟩; omega
    | get q i p v hq hv hi hp hl h0 hver ht hw h => rw [h]; exact ⟨l1, l2⟩
    | told q i b hq hi hl hg hb h => rw [h]; exact ⟨l1, l2⟩
    | late k i hk hi hl hg ht h => rw [h]; exact ⟨l1, l2⟩
  · intro n hn hl'
    cases t with
    | same h => rw [h] at hn hl' ⊢; exact I.lv n hn hl'
    | send p hw' hp h =>
      rw [h] at hn hl' ⊢
      have hn : n < (c.state.sent ++ [p]).length := hn
      have hl' : (c.state.live ++ [true]).getD n false = true := hl'
      show ((c.state.sent ++ [p]).getD n default).ver = c.state.ver
      rw [List.length_append] at hn
      simp only [List.length_cons, List.length_nil] at hn
      rw [getD_snoc _ _ _ _ (by omega)] at hl' ⊢
      by_cases hlt : n < c.state.sent.length
      · rw [if_pos hlt]; rw [if_pos (by omega)] at hl'; exact I.lv n hlt hl'
      · rw [if_neg hlt]; exact hp
    | step q k hq hk hm h =>
      obtain ⟨e1, e2, e3, e4, e5⟩ := step_cases hs hm
      rw [h] at hn hl' ⊢
      rw [e1] at hn; rw [e2] at hl'; rw [e1]
      rcases e5 with e5 | e5
      · rw [e5.1]; exact I.lv n hn hl'
      · rw [lives_zero e5.2.2.2.1 n] at hl'; cases hl'
    | get q i p v hq hv hi hp hl h0 hver ht hw h => rw [h] at hn hl' ⊢; exact I.lv n hn hl'
    | told q i b hq hi hl hg hb h =>
      rw [h] at hn hl' ⊢
      have hl' : (c.state.live.set i false).getD n false = true := hl'
      rw [getD_set] at hl'
      split at hl'
      · cases hl'
      · exact I.lv n hn hl'
    | late k i hk hi hl hg ht h =>
      rw [h] at hn hl' ⊢
      have hl' : (c.state.live.set i false).getD n false = true := hl'
      rw [getD_set] at hl'
      split at hl'
      · cases hl'
      · exact I.lv n hn hl'

/-- What stays so of a chain c and the other one o. -/
structure LInv (c o : Chain) : Prop where
  opn : 3 ≤ c.state.way → 2 ≤ o.state.way
  ver : c.state.ver ≤ o.state.ver + 1
  ahead : o.state.ver = c.state.ver + 1 → c.state.way = 4 ∧ ∀ n, c.state.live.getD n false = false
  gs : ∀ n, o.state.got.getD n 0 ≠ 0 → n < c.state.sent.length ∧ 2 ≤ (c.state.sent.getD n default).till
  done : ∀ n, n < c.state.sent.length → c.state.live.getD n false = false → c.state.back.getD n false = false → o.state.got.getD n 0 = 1
  bk : ∀ n, n < c.state.sent.length → c.state.back.getD n false = true → o.state.got.getD n 0 = 2 ∨ (o.state.got.getD n 0 = 0 ∧ (c.state.sent.getD n default).till ≤ (o.past.length : Int))
  time : ∀ n, n < c.state.sent.length → ∀ i, i < o.past.length → (c.state.sent.getD n default).till ≤ (i : Int) + 2 → (o.past.getD i default).got.getD n 0 = o.state.got.getD n 0

/-- c has turned. -/
theorem dinv_c {c o : Chain} {e : Event} (h : c.ok = true) (ho : o.ok = true) (Io : CInv o) (D : LInv c o) (D' : LInv o c) : LInv (c.on o e) o := by
  have hs : c.state.ok = true := (chain_ok h).2.2.1
  obtain ⟨r1, r2, r3, r4, r5, r6, r7, r8, r9⟩ := state_ok hs
  have t := on_turn (e := e) h ho
  have hpast : ∀ q ∈ o.past, q.ok = true := by
    intro q hq
    obtain ⟨i, hi, rfl⟩ := List.mem_iff_getElem.1 hq
    have := (chain_ok ho).2.2.2.2.1 i hi
    simpa [List.getD, hi] using this
  cases t with
  | same h => exact ⟨by rw [h]; exact D.opn, by rw [h]; exact D.ver, by rw [h]; exact D.ahead, by rw [h]; exact D.gs, by rw [h]; exact D.done, by rw [h]; exact D.bk, by rw [h]; exact D.time⟩
  | send p hw hp h =>
    have g1 : ∀ n, n < c.state.sent.length → (c.on o e).state.sent.getD n default = c.state.sent.getD n default := by
      intro n hn; rw [h]; show (c.state.sent ++ [p]).getD n default = _; rw [getD_snoc _ _ _ _ (by omega), if_pos hn]
    have g2 : (c.on o e).state.sent.length = c.state.sent.length + 1 := by rw [h]; simp
    have g3 : ∀ n, n < c.state.sent.length + 1 → (c.on o e).state.live.getD n false = if n < c.state.sent.length then c.state.live.getD n false else true := by
      intro n hn; rw [h]; show (c.state.live ++ [true]).getD n false = _; rw [getD_snoc _ _ _ _ (by omega), r4]
    have g4 : ∀ n, n < c.state.sent.length + 1 → (c.on o e).state.back.getD n false = if n < c.state.sent.length then c.state.back.getD n false else false := by
      intro n hn; rw [h]; show (c.state.back ++ [false]).getD n false = _; rw [getD_snoc _ _ _ _ (by omega), r5]
    have g5 : (c.on o e).state.way = c.state.way := by rw [h]
    have g6 : (c.on o e).state.ver = c.state.ver := by rw [h]
    refine ⟨by rw [g5]; exact D.opn, by rw [g6]; exact D.ver, fun e0 => ?_, fun n hn => ?_, fun n hn hl hb => ?_, fun n hn hb => ?_, fun n hn i hi ht => ?_⟩
    · rw [g6] at e0; have := (D.ahead e0).1; omega
    · obtain ⟨a1, a2⟩ := D.gs n hn
      exact ⟨by omega, by rw [g1 n a1]; exact a2⟩
    · rw [g2] at hn
      rw [g3 n hn] at hl; rw [g4 n hn] at hb
      split at hl
      · rename_i hlt; rw [if_pos hlt] at hb; exact D.done n hlt hl hb
      · cases hl
    · rw [g2] at hn
      rw [g4 n hn] at hb
      split at hb
      · rename_i hlt; rw [g1 n hlt]; exact D.bk n hlt hb
      · cases hb
    · rw [g2] at hn
      by_cases hlt : n < c.state.sent.length
      · rw [g1 n hlt] at ht; exact D.time n hlt i hi ht
      · have z : o.state.got.getD n 0 = 0 := by
          by_cases z : o.state.got.getD n 0 = 0
          · exact z
          · exact absurd (D.gs n z).1 hlt
        by_cases z2 : (o.past.getD i default).got.getD n 0 = 0
        · rw [z, z2]
        · have := (Io.last _ (getD_mem hi)).got n z2
          exact this.symm
  | step q n hq hk hm h =>
    obtain ⟨e1, e2, e3, e4, e5⟩ := step_cases hs hm
    refine ⟨?_, ?_, ?_, by rw [h, e1]; exact D.gs, by rw [h, e1, e2, e3]; exact D.done, by rw [h, e1, e3]; exact D.bk, by rw [h, e1]; exact D.time⟩
    · intro hw
      rw [h] at hw
      rcases e5 with e5 | e5
      · rcases e5.2.2.2 hw with h3 | h3
        · exact D.opn h3
        · rcases hq with rfl | hq
          · exact absurd h3 (by decide)
          · exact (Io.last q hq).tri h3
      · exact D.opn (by omega)
    · rw [h]
      rcases e5 with e5 | e5
      · rw [e5.1]; exact D.ver
      · rw [e5.1]
        rcases hq with hq | hq
        · rcases hk hq with k | k <;> subst k <;> subst hq
          · unfold wayMay at hm; simp at hm; omega
          · unfold wayMay at hm; simp at hm; omega
        · have m := (Io.last q hq).ver
          rcases e5.2.2.2.2 with ⟨a1, a2, a3⟩ | a
          · have q9 := (state_ok (hpast q hq)).2.2.2.2.2.2.2.2
            rw [if_pos a1] at q9
            omega
          · omega
    · intro e0
      rw [h] at e0
      rcases e5 with e5 | e5
      · rw [e5.1] at e0; have := (D.ahead e0).1; omega
      · have := D'.ver; omega
  | get q i p v hq hv hi hp hl h0 hver ht hw h => exact ⟨by rw [h]; exact D.opn, by rw [h]; exact D.ver, by rw [h]; exact D.ahead, by rw [h]; exact D.gs, by rw [h]; exact D.done, by rw [h]; exact D.bk, by rw [h]; exact D.time⟩
  | told q i b hq hi hl hg hb h =>
    have ml : ∀ n, (c.on o e).state.live.getD n false = if i = n then false else c.state.live.getD n false := by
      intro n; rw [h]; show (c.state.live.set i false).getD n false = _; rw [getD_set]
      by_cases hin : i = n
      · rw [if_pos ⟨hin, by omega⟩, if_pos hin]
      · rw [if_neg (fun a => hin a.1), if_neg hin]
    have mb : ∀ n, (c.on o e).state.back.getD n false = if i = n ∧ b = true then true else c.state.back.getD n false := by
      intro n; rw [h]; show (if b then c.state.back.set i true else c.state.back).getD n false = _
      cases b
      · simp
      · simp only [if_true, and_true]
        rw [getD_set]
        by_cases hin : i = n
        · rw [if_pos ⟨hin, by omega⟩, if_pos hin]
        · rw [if_neg (fun a => hin a.1), if_neg hin]
    have ms : (c.on o e).state.sent = c.state.sent := by rw [h]
    have mw : (c.on o e).state.way = c.state.way := by rw [h]
    have mv : (c.on o e).state.ver = c.state.ver := by rw [h]
    have hgot : o.state.got.getD i 0 = q.got.getD i 0 := (Io.last q hq).got i hg
    refine ⟨by rw [mw]; exact D.opn, by rw [mv]; exact D.ver, fun e0 => ?_, by rw [ms]; exact D.gs, fun n hn hl' hb' => ?_, fun n hn hb' => ?_, by rw [ms]; exact D.time⟩
    · rw [mv] at e0
      refine ⟨by rw [mw]; exact (D.ahead e0).1, fun n => ?_⟩
      rw [ml]; split
      · rfl
      · exact (D.ahead e0).2 n
    · rw [ms] at hn; rw [ml] at hl'; rw [mb] at hb'
      by_cases hin : i = n
      · subst hin
        have hb2 : b = false := by cases b <;> simp_all
        rw [hb2] at hb
        have hne : q.got.getD i 0 ≠ 2 := by simpa using hb.symm
        have := (state_ok (hpast q hq)).2.2.2.2.2.2.2.1 i (by omega)
        omega
      · rw [if_neg hin] at hl'; rw [if_neg (fun a => hin a.1)] at hb'
        exact D.done n hn hl' hb'
    · rw [ms] at hn ⊢; rw [mb] at hb'
      by_cases hin : i = n ∧ b = true
      · obtain ⟨rfl, hb2⟩ := hin
        rw [hb2] at hb
        have : q.got.getD i 0 = 2 := by simpa using hb.symm
        left; omega
      · rw [if_neg hin] at hb'; exact D.bk n hn hb'
  | late k i hk hi hl hg ht h =>
    have ml : ∀ n, (c.on o e).state.live.getD n false = if i = n then false else c.state.live.getD n false := by
      intro n; rw [h]; show (c.state.live.set i false).getD n false = _; rw [getD_set]
      by_cases hin : i = n
      · rw [if_pos ⟨hin, by omega⟩, if_pos hin]
      · rw [if_neg (fun a => hin a.1), if_neg hin]
    have mb : ∀ n, (c.on o e).state.back.getD n false = if i = n then true else c.state.back.getD n false := by
      intro n; rw [h]; show (c.state.back.set i true).getD n false = _
      rw [getD_set]
      by_cases hin : i = n
      · rw [if_pos ⟨hin, by omega⟩, if_pos hin]
      · rw [if_neg (fun a => hin a.1), if_neg hin]
    have ms : (c.on o e).state.sent = c.state.sent := by rw [h]
    have mw : (c.on o e).state.way = c.state.way := by rw [h]
    have mv : (c.on o e).state.ver = c.state.ver := by rw [h]
    refine ⟨by rw [mw]; exact D.opn, by rw [mv]; exact D.ver, fun e0 => ?_, by rw [ms]; exact D.gs, fun n hn hl' hb' => ?_, fun n hn hb' => ?_, by rw [ms]; exact D.time⟩
    · rw [mv] at e0
      refine ⟨by rw [mw]; exact (D.ahead e0).1, fun n => ?_⟩
      rw [ml]; split
      · rfl
      · exact (D.ahead e0).2 n
    · rw [ms] at hn; rw [ml] at hl'; rw [mb] at hb'
      by_cases hin : i = n
      · rw [if_pos hin] at hb'; cases hb'
      · rw [if_neg hin] at hl'; rw [if_neg hin] at hb'
        exact D.done n hn hl' hb'
    · rw [ms] at hn ⊢; rw [mb] at hb'
      by_cases hin : i = n
      · subst hin
        right
        have := D.time i hn k hk (by omega)
        exact ⟨by rw [← this]; exact hg, by omega⟩
      · rw [if_neg hin] at hb'; exact D.bk n hn hb'

/-- The other one has turned. -/
theorem dinv_o {c o : Chain} {e : Event} (h : c.ok = true) (ho : o.ok = true) (Io : CInv o) (D : LInv c o) (D' : LInv o c) : LInv o (c.on o e) := by
  have hs : c.state.ok = true := (chain_ok h).2.2.1
  have hos : o.state.ok = true := (chain_ok ho).2.2.1
  obtain ⟨r1, r2, r3, r4, r5, r6, r7, r8, r9⟩ := state_ok hs
  obtain ⟨u1, u2, u3, u4, u5, u6, u7, u8, u9⟩ := state_ok hos
  have t := on_turn (e := e) h ho
  have m := turn_mono hs t
  have hpast : ∀ q ∈ o.past, q.ok = true := by
    intro q hq
    obtain ⟨i, hi, rfl⟩ := List.mem_iff_getElem.1 hq
    have := (chain_ok ho).2.2.2.2.1 i hi
    simpa [List.getD, hi] using this
  have hpl : c.past.length ≤ (c.on o e).past.length := on_past_len
  -- where what came has not turned
  have calm : (c.on o e).state.got = c.state.got → (∀ n, n < o.state.sent.length → o.state.back.getD n false = true → (c.on o e).state.got.getD n 0 = 2 ∨ ((c.on o e).state.got.getD n 0 = 0 ∧ (o.state.sent.getD n default).till ≤ ((c.on o e).past.length : Int))) ∧
      (∀ n, n < o.state.sent.length → ∀ i, i < (c.on o e).past.length → (o.state.sent.getD n default).till ≤ (i : Int) + 2 → ((c.on o e).past.getD i default).got.getD n 0 = (c.on o e).state.got.getD n 0) := by
    intro hg
    refine ⟨fun n hn hb => ?_, fun n hn i hi ht => ?_⟩
    · rw [hg]
      rcases D'.bk n hn hb with b | b
      · exact .inl b
      · exact .inr ⟨b.1, by omega⟩
    · rw [hg]
      rcases (on_past (c := c) (o := o) (e := e)).2.1 with hp | ⟨_, hp⟩
      · rw [hp] at hi ⊢; exact D'.time n hn i hi ht
      · rw [hp] at hi ⊢
        rw [List.length_append] at hi
        simp only [List.length_cons, List.length_nil] at hi
        rw [getD_snoc _ _ _ _ (by omega)]
        split
        · exact D'.time n hn i (by assumption) ht
        · rfl
  have plain : (c.on o e).state.got = c.state.got → (c.on o e).state.way = c.state.way → (c.on o e).state.ver = c.state.ver → LInv o (c.on o e) := fun hg hw hv =>
    ⟨by rw [hw]; exact D'.opn, by rw [hv]; exact D'.ver, by rw [hv]; exact D'.ahead, by rw [hg]; exact D'.gs, by rw [hg]; exact D'.done, (calm hg).1, (calm hg).2⟩
  cases t with
  | same h => exact plain (by rw [h]) (by rw [h]) (by rw [h])
  | send p hw hp h => exact plain (by rw [h]) (by rw [h]) (by rw [h])
  | told q i b hq hi hl hg hb h => exact plain (by rw [h]) (by rw [h]) (by rw [h])
  | late k i hk hi hl hg ht h => exact plain (by rw [h]) (by rw [h]) (by rw [h])
  | step q n hq hk hm h =>
    obtain ⟨e1, e2, e3, e4, e5⟩ := step_cases hs hm
    have hg : (c.on o e).state.got = c.state.got := by rw [h, e4]
    refine ⟨fun hw => m.tri (D'.opn hw), by have := D'.ver; have := m.ver; omega, ?_, by rw [hg]; exact D'.gs, by rw [hg]; exact D'.done, (calm hg).1, (calm hg).2⟩
    intro e0
    rw [h] at e0
    rcases e5 with e5 | e5
    · rw [e5.1] at e0; exact D'.ahead e0
    · rw [e5.1] at e0
      have e0' : c.state.ver = o.state.ver := by omega
      rcases hq with hq | hq
      · rcases hk hq with k | k <;> subst k <;> subst hq
        · unfold wayMay at hm; simp at hm; omega
        · unfold wayMay at hm; simp at hm; omega
      · have mq := Io.last q hq
        have mv := mq.ver
        rcases e5.2.2.2.2 with ⟨a1, a2, a3⟩ | a
        · have q0 := state_ok (hpast q hq)
          have q9 := q0.2.2.2.2.2.2.2.2
          rw [if_pos a1] at q9
          have w1 := mq.way (by omega)
          refine ⟨by omega, fun n => ?_⟩
          by_cases hn : n < o.state.sent.length
          · have hl := mq.shut (by omega) (by omega)
            cases hx : o.state.live.getD n false with
            | false => rfl
            | true =>
              have := mq.live n (by omega) hx
              rw [lives_zero a3 n] at this; cases this
          · exact getD_len (by omega)
        · omega
  | get q i p v hq hv hi hp hl h0 hver ht hw h =>
    have hg : ∀ n, (c.on o e).state.got.getD n 0 = if i = n ∧ i < 8 then v else c.state.got.getD n 0 := by
      intro n; rw [h]; show (c.state.got.set i v).getD n 0 = _; rw [getD_set, r6]
    have hw' : (c.on o e).state.way = c.state.way := by rw [h]
    have hv' : (c.on o e).state.ver = c.state.ver := by rw [h]
    have mq := Io.last q hq
    have hil : i < o.state.sent.length := Nat.lt_of_lt_of_le hi mq.len
    have hi8 : i < 8 := by omega
    have hsp : o.state.sent.getD i default = p := by rw [mq.sent i hi]; exact hp
    refine ⟨by rw [hw']; exact D'.opn, by rw [hv']; exact D'.ver, by rw [hv']; exact D'.ahead, fun n hn => ?_, fun n hn hl' hb' => ?_, fun n hn hb' => ?_, fun n hn k hk hkt => ?_⟩
    · rw [hg] at hn
      by_cases hin : i = n
      · subst hin; exact ⟨hil, by rw [hsp]; omega⟩
      · rw [if_neg (fun a => hin a.1)] at hn; exact D'.gs n hn
    · rw [hg]
      by_cases hin : i = n
      · subst hin
        have := D'.done i hn hl' hb'
        rw [h0] at this; omega
      · rw [if_neg (fun a => hin a.1)]; exact D'.done n hn hl' hb'
    · rw [hg]
      by_cases hin : i = n
      · subst hin
        rcases D'.bk i hn hb' with a | a
        · rw [h0] at a; omega
        · rw [hsp] at a; omega
      · rw [if_neg (fun a => hin a.1)]
        rcases D'.bk n hn hb' with a | a
        · exact .inl a
        · exact .inr ⟨a.1, by omega⟩
    · have hpe : (c.on o e).past = c.past := by
        rcases (on_past (c := c) (o := o) (e := e)).2.1 with hp | ⟨hk1, hp⟩
        · exact hp
        · exfalso
          have hb : (c.on o e).state = c.state := by
            unfold Chain.on; rw [if_pos hk1]; unfold Chain.block; split <;> rfl
          have := hg i
          rw [hb, if_pos ⟨rfl, hi8⟩, h0] at this; omega
      by_cases hin : i = n
      · subst hin
        rw [hsp] at hkt
        rw [hpe] at hk
        omega
      · rw [hg, if_neg (fun a => hin a.1)]
        rw [hpe] at hk ⊢
        exact D'.time n hn k hk hkt

/-- All that stays so. -/
structure WInv (w : Two) : Prop where
  ok : wOk w.list = true
  ca : CInv w.a
  cb : CInv w.b
  ab : LInv w.a w.b
  ba : LInv w.b w.a
theorem winv_new : WInv Two.new := by
  have hc : ∀ i, CInv (Chain.new i) := fun i => ⟨List.Pairwise.nil, fun s hs => (by cases hs), List.Pairwise.nil, fun _ => ⟨rfl, rfl⟩, fun n hn => absurd hn (Nat.not_lt_zero _)⟩
  have z : ∀ n, (List.replicate 8 (0 : Int)).getD n 0 = 0 := by
    intro n; simp only [List.getD, List.getElem?_replicate]; split <;> rfl
  have hd : ∀ i j, LInv (Chain.new i) (Chain.new j) := fun i j => ⟨fun h => absurd h (show ¬ (3 : Int) ≤ 0 by omega), (show (1 : Int) ≤ 1 + 1 by omega), fun h => absurd h (show ¬ (1 : Int) = 1 + 1 by omega), fun n hn => absurd (z n) hn,
    fun n hn => absurd hn (Nat.not_lt_zero _), fun n hn => absurd hn (Nat.not_lt_zero _), fun n hn => absurd hn (Nat.not_lt_zero _)⟩
  exact ⟨two_new_wOk, hc _, hc _, hd _ _, hd _ _⟩
theorem winv_on {w : Two} {e : Event} (I : WInv w) : WInv (w.on e) := by
  have h := two_on_wOk (e := e) I.ok
  obtain ⟨h1, h2, _⟩ := wOk_iff.1 I.ok
  revert h
  unfold Two.on
  split
  · exact fun h => ⟨h, on_cinv h1 h2 I.ca, I.cb, dinv_c h1 h2 I.cb I.ab I.ba, dinv_o h1 h2 I.cb I.ab I.ba⟩
  split
  · exact fun h => ⟨h, I.ca, on_cinv h2 h1 I.cb, dinv_o h2 h1 I.ca I.ba I.ab, dinv_c h2 h1 I.ca I.ba I.ab⟩
  · exact fun _ => I
theorem winv_play (es : List Event) : WInv (Two.new.play es) := by
  have : ∀ (es : List Event) (w : Two), WInv w → WInv (w.play es) := by
    intro es
    induction es with
    | nil => intro w h; exact h
    | cons e es ih => intro w h; exact ih _ (winv_on h)
  exact this es _ winv_new
end Go.Hw
