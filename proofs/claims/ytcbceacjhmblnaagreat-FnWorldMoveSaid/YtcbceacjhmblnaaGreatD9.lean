/- What is proved here: parts D9 of the walk of the law and of its plain side; no condition but those that each theorem states. -/
import Derived.Test.YtcbceacjhmblnaaGreatA4
/- Plain: in every play a chain has as many coins locked as there are notes for them, with those on their way. -/
set_option linter.all false
namespace Go.Hw
/-- A sum over the first n numbers. -/
def rsum (f : Nat → Int) : Nat → Int
  | 0 => 0
  | n + 1 => rsum f n + f n
theorem rsum_congr {f g : Nat → Int} : ∀ {n : Nat}, (∀ i, i < n → f i = g i) → rsum f n = rsum g n
  | 0, _ => rfl
  | n + 1, h => by
    unfold rsum
    rw [rsum_congr (fun i hi => h i (by omega)), h n (by omega)]
theorem rsum_le {f g : Nat → Int} : ∀ {n : Nat}, (∀ i, i < n → f i ≤ g i) → rsum f n ≤ rsum g n
  | 0, _ => Int.le_refl _
  | n + 1, h => by
    unfold rsum
    have := rsum_le (n := n) (fun i hi => h i (by omega))
    have := h n (by omega)
    omega
theorem rsum_zero : ∀ (n : Nat), rsum (fun _ => 0) n = 0
  | 0 => rfl
  | n + 1 => by unfold rsum; rw [rsum_zero n]; rfl
theorem rsum_const (k : Int) : ∀ (n : Nat), rsum (fun _ => k) n = k * n
  | 0 => by simp [rsum]
  | n + 1 => by unfold rsum; rw [rsum_const k n]; rw [Int.natCast_add, Int.mul_add]; simp
theorem rsum_point {f g : Nat → Int} {i : Nat} : ∀ {n : Nat}, i < n → (∀ j, j < n → j ≠ i → f j = g j) → rsum g n = rsum f n + (g i - f i)
  | 0, h, _ => absurd h (Nat.not_lt_zero _)
  | n + 1, h, hf => by
    unfold rsum
    by_cases e : i = n
    · subst e
      rw [rsum_congr (f := f) (g := g) (fun j hj => hf j (by omega) (by omega))]
      omega
    · rw [rsum_point (n := n) (by omega) (fun j hj hi => hf j (by omega) hi), hf n (by omega) (fun a => e a.symm)]
      omega
/-- Is a packet of kind k on its way? -/
def awB (s o : State) (k : Int) (i : Nat) : Bool := decide ((s.sent.getD i default).kind = k) && (s.live.getD i false && !decide (o.got.getD i 0 = 1))
def awF (s o : State) (k : Int) (i : Nat) : Int := if awB s o k i then (s.sent.getD i default).sum else 0
def awayS (s o : State) (k : Int) : Int := rsum (awF s o k) s.sent.length
theorem awF_in {s o : State} {k : Int} (hs : s.ok = true) {i : Nat} (hi : i < s.sent.length) : 0 ≤ awF s o k i ∧ awF s o k i ≤ 9 := by
  have h := packet_iff.1 (sentOk_iff ((state_ok hs).2.2.2.2.2.2.1 i hi)).1
  unfold awF; split <;> omega
theorem rsum_in {f : Nat → Int} {n m : Nat} (hm : m ≤ n) (h : ∀ i, i < n → 0 ≤ f i ∧ f i ≤ 9) : 0 ≤ rsum f m ∧ rsum f m ≤ 9 * m := by
  have h1 := rsum_le (f := fun _ => 0) (g := f) (n := m) (fun i hi => (h i (by omega)).1)
  have h2 := rsum_le (f := f) (g := fun _ => 9) (n := m) (fun i hi => (h i (by omega)).2)
  rw [rsum_zero] at h1; rw [rsum_const] at h2
  exact ⟨h1, h2⟩
theorem away_in {s o : State} {k : Int} (hs : s.ok = true) {m : Nat} (hm : m ≤ s.sent.length) : 0 ≤ rsum (awF s o k) m ∧ rsum (awF s o k) m ≤ 9 * m :=
  rsum_in hm (fun i hi => awF_in hs hi)
theorem rsum_ge {f : Nat → Int} {n i : Nat} (hi : i < n) (h : ∀ i, i < n → 0 ≤ f i ∧ f i ≤ 9) : f i ≤ rsum f n := by
  have h1 := rsum_point (f := fun j => if j = i then 0 else f j) (g := f) hi (fun j _ hj => if_neg hj)
  have h2 := (rsum_in (f := fun j => if j = i then 0 else f j) (Nat.le_refl n) (fun j hj => by have := h j hj; by_cases e : j = i <;> simp only [e, if_true, if_false, if_neg, not_false_eq_true] <;> omega)).1
  simp only [if_true] at h1; omega

theorem awayD_sum {b : Bank} {kind src sum : Int} (h : b.ok = true) (hs : In src 1 3 = true) : (b.awayD kind src sum).locked = b.locked + (if kind = 1 then sum else 0) ∧ isum (b.awayD kind src sum).notes = isum b.notes - (if kind = 1 then 0 else sum) := by
  rw [bank_iff] at *
  obtain ⟨p1, p2, h1, h2, h3⟩ := h
  obtain ⟨a1, a2, a3, e1, r1, r2, r3⟩ := parts_iff.1 p1
  obtain ⟨c1, c2, c3, e2, s1, s2, s3⟩ := parts_iff.1 p2
  obtain ⟨own, notes, locked⟩ := b
  simp only at e1 e2
  subst e1; subst e2
  unfold Bank.awayD
  by_cases hk : kind = 1
  · simp only [if_pos hk, Bank.dec, Bank.put]
    exact ⟨trivial, by omega⟩
  · rcases user_ix hs with e | e | e <;> simp only [Bank.dec, Bank.put, Bank.list, Bank.at, if_neg hk, e, List.set_cons_zero, List.set_cons_succ, List.getD_cons_zero, List.getD_cons_succ] <;> simp only [isum3] <;> omega
theorem backD_sum {b : Bank} {kind dst sum : Int} (h : b.ok = true) (hs : In dst 1 3 = true) : (b.backD kind dst sum).locked = b.locked - (if kind = 1 then sum else 0) ∧ isum (b.backD kind dst sum).notes = isum b.notes + (if kind = 1 then 0 else sum) := by
  rw [bank_iff] at *
  obtain ⟨p1, p2, h1, h2, h3⟩ := h
  obtain ⟨a1, a2, a3, e1, r1, r2, r3⟩ := parts_iff.1 p1
  obtain ⟨c1, c2, c3, e2, s1, s2, s3⟩ := parts_iff.1 p2
  obtain ⟨own, notes, locked⟩ := b
  simp only at e1 e2
  subst e1; subst e2
  unfold Bank.backD
  by_cases hk : kind = 1
  · simp only [if_pos hk, Bank.add, Bank.put]
    exact ⟨trivial, by omega⟩
  · rcases user_ix hs with e | e | e <;> simp only [Bank.add, Bank.put, Bank.list, Bank.at, if_neg hk, e, List.set_cons_zero, List.set_cons_succ, List.getD_cons_zero, List.getD_cons_succ] <;> simp only [isum3] <;> omega
theorem moveD_sum {b : Bank} {kind src dst sum : Int} (h : b.ok = true) (hs : In src 1 3 = true) (hd : In dst 1 3 = true) : (b.moveD kind src dst sum).locked = b.locked ∧ isum (b.moveD kind src dst sum).notes = isum b.notes := by
  rw [bank_iff] at *
  obtain ⟨p1, p2, h1, h2, h3⟩ := h
  obtain ⟨a1, a2, a3, e1, r1, r2, r3⟩ := parts_iff.1 p1
  obtain ⟨c1, c2, c3, e2, s1, s2, s3⟩ := parts_iff.1 p2
  obtain ⟨own, notes, locked⟩ := b
  simp only at e1 e2
  subst e1; subst e2
  unfold Bank.moveD
  by_cases hk : kind = 1
  · simp [Bank.dec, Bank.add, Bank.put, hk]
  · rcases user_ix hs with e | e | e <;> rcases user_ix hd with e' | e' | e' <;> simp only [Bank.dec, Bank.add, Bank.put, Bank.list, Bank.at, if_neg hk, e, e', List.set_cons_zero, List.set_cons_succ, List.getD_cons_zero, List.getD_cons_succ] <;> (refine ⟨trivial, ?_⟩; simp only [isum3]; omega)

/-- The two sums of a chain c beside o. -/
def sumL (c o : Chain) : Int := c.bank.locked - awayS c.state o.state 1 - awayS o.state c.state 2
def sumN (c o : Chain) : Int := isum c.bank.notes + awayS o.state c.state 1 + awayS c.state o.state 2
def SInv (c o : Chain) : Prop := sumL c o = isum o.bank.notes
theorem sinv_iff {c o : Chain} : SInv c o ↔ c.bank.locked = isum o.bank.notes + awayS c.state o.state 1 + awayS o.state c.state 2 := by
  unfold SInv sumL; omega
theorem sumN_iff {c o : Chain} : SInv o c ↔ sumN c o = o.bank.locked := by
  unfold SInv sumL sumN; omega
theorem same_sums {c c' o : Chain} (h1 : c'.state.sent = c.state.sent) (h2 : c'.state.live = c.state.live) (h3 : c'.state.got = c.state.got) (h4 : c'.bank.locked = c.bank.locked) (h5 : isum c'.bank.notes = isum c.bank.notes) : sumL c' o = sumL c o ∧ sumN c' o = sumN c o := by
  have e1 : ∀ k, awayS c'.state o.state k = awayS c.state o.state k := by
    intro k; unfold awayS; rw [h1]; refine rsum_congr (fun i _ => ?_); unfold awF awB; rw [h1, h2]
  have e2 : ∀ k, awayS o.state c'.state k = awayS o.state c.state k := by
    intro k; unfold awayS; refine rsum_congr (fun i _ => ?_); unfold awF awB; rw [h3]
  unfold sumL sumN
  rw [e1, e1, e2, e2, h4, h5]; exact ⟨rfl, rfl⟩
theorem send_sums {c o : Chain} {kind src dst sum till : Int} (h : c.ok = true) (D : LInv c o) (hB : c.sendB kind src dst sum till = true) : sumL (c.sendD kind src dst sum till) o = sumL c o ∧ sumN (c.sendD kind src dst sum till) o = sumN c o := by
  simp only [Chain.sendB, Bool.and_eq_true, decide_eq_true_eq] at hB
  obtain ⟨hw, hp, hA⟩ := hB
  have hp' := packet_iff.1 hp
  simp only [Chain.packet] at hp'
  obtain ⟨h1, h2, h3, h4, h5, h6⟩ := chain_ok h
  obtain ⟨r1, r2, r3, r4, r5, r6, r7, r8, r9⟩ := state_ok h3
  obtain ⟨z1, z2⟩ := awayD_sum (b := c.bank) (kind := kind) (sum := sum) h2 (src := src) (by rw [In_iff]; omega)
  have g0 : o.state.got.getD c.state.sent.length 0 = 0 := by
    by_cases z : o.state.got.getD c.state.sent.length 0 = 0
    · exact z
    · exact absurd (D.gs _ z).1 (Nat.lt_irrefl _)
  have e1 : ∀ k, awayS (c.sendD kind src dst sum till).state o.state k = awayS c.state o.state k + (if kind = k then sum else 0) := by
    intro k
    have hs : (c.sendD kind src dst sum till).state.sent = c.state.sent ++ [c.packet kind src dst sum till] := rfl
    have hl : (c.sendD kind src dst sum till).state.live = c.state.live ++ [true] := rfl
    have gs : ∀ i, i < c.state.sent.length + 1 → (c.sendD kind src dst sum till).state.sent.getD i default = if i < c.state.sent.length then c.state.sent.getD i default else c.packet kind src dst sum till := fun i hi => getD_snoc _ _ _ _ hi
    have gl : ∀ i, i < c.state.sent.length + 1 → (c.sendD kind src dst sum till).state.live.getD i false = if i < c.state.live.length then c.state.live.getD i false else true := fun i hi => getD_snoc _ _ _ _ (by omega)
    unfold awayS; rw [hs, List.length_append]
    show rsum (awF (c.sendD kind src dst sum till).state o.state k) c.state.sent.length + awF (c.sendD kind src dst sum till).state o.state k c.state.sent.length = _
    have hlast : awF (c.sendD kind src dst sum till).state o.state k c.state.sent.length = (if kind = k then sum else 0) := by
      unfold awF awB
      have s1 := gs c.state.sent.length (by omega)
      have l1 := gl c.state.sent.length (by omega)
      rw [if_neg (by omega)] at s1 l1
      rw [s1, l1, g0]
      by_cases hkk : kind = k <;> simp [Chain.packet, hkk]
    rw [hlast]
    congr 1
    refine rsum_congr (fun i hi => ?_)
    unfold awF awB
    have s1 := gs i (by omega)
    have l1 := gl i (by omega)
    rw [if_pos hi] at s1
    rw [if_pos (by omega)] at l1
    rw [s1, l1]
  have e2 : ∀ k, awayS o.state (c.sendD kind src dst sum till).state k = awayS o.state c.state k := fun k => rfl
  have e3 : (c.sendD kind src dst sum till).bank = c.bank.awayD kind src sum := rfl
  unfold sumL sumN
  rw [e1, e1, e2, e2, e3, z1, z2]
  by_cases hk : kind = 1
  · subst hk; simp; omega
  · have hk2 : kind = 2 := by omega
    subst hk2; simp; omega
theorem got_sums {c o : Chain} {p : Packet} (h : c.ok = true) (ho : o.ok = true) (hp : p.ok = true) {i : Nat} (hi : i < o.state.sent.length) (hpi : o.state.sent.getD i default = p) (hl : o.state.live.getD i false = true) (hix : (p.seq - 1).toNat = i) (h0 : c.state.got.getD i 0 = 0) :
    sumL (c.getD p) o = sumL c o ∧ sumN (c.getD p) o = sumN c o := by
  have hp' := packet_iff.1 hp
  obtain ⟨h1, h2, h3, h4, h5, h6⟩ := chain_ok h
  obtain ⟨r1, r2, r3, r4, r5, r6, r7, r8, r9⟩ := state_ok h3
  have hi8 : i < 8 := by omega
  have e1 : ∀ k, awayS (c.getD p).state o.state k = awayS c.state o.state k := fun k => rfl
  have e2 : ∀ k, awayS o.state (c.getD p).state k = awayS o.state c.state k - (if payB c.bank p = true ∧ p.kind = k then p.sum else 0) := by
    intro k
    unfold awayS
    have hg : ∀ j, (c.getD p).state.got.getD j 0 = if i = j then (if payB c.bank p then 1 else 2) else c.state.got.getD j 0 := by
      intro j; show (c.state.got.set (p.seq - 1).toNat _).getD j 0 = _
      rw [getD_set, hix, r6]; by_cases e : i = j
      · rw [if_pos ⟨e, hi8⟩, if_pos e]
      · rw [if_neg (fun a => e a.1), if_neg e]
    rw [rsum_point (f := awF o.state c.state k) (g := awF o.state (c.getD p).state k) hi (fun j hj hne => by have e := hg j; rw [if_neg (fun a => hne a.symm)] at e; unfold awF awB; rw [e])]
    have a1 : awF o.state c.state k i = if p.kind = k then p.sum else 0 := by unfold awF awB; rw [hpi, hl, h0]; by_cases e : p.kind = k <;> simp [e]
    have a2 : awF o.state (c.getD p).state k i = if payB c.bank p = true then 0 else if p.kind = k then p.sum else 0 := by
      have e := hg i; rw [if_pos rfl] at e; unfold awF awB; rw [hpi, hl, e]; by_cases e : p.kind = k <;> cases payB c.bank p <;> simp [e]
    rw [a1, a2]
    cases payB c.bank p <;> simp <;> omega
  have hb : (c.getD p).bank = if payB c.bank p then c.bank.backD (otherK p.kind) p.dst p.sum else c.bank := rfl
  unfold sumL sumN
  rw [e1, e1, e2, e2, hb]
  cases hpay : payB c.bank p
  · simp
  · have hd : p.dst ≠ 0 := by
      simp only [payB, Bool.and_eq_true, decide_eq_true_eq] at hpay; exact hpay.1
    obtain ⟨z1, z2⟩ := backD_sum (b := c.bank) (kind := otherK p.kind) (sum := p.sum) h2 (dst := p.dst) (by rw [In_iff]; omega)
    simp only [if_true, true_and]
    rw [z1, z2]
    rcases (show p.kind = 1 ∨ p.kind = 2 by omega) with hk | hk <;> simp [otherK, hk] <;> omega
theorem settle_sums {c o : Chain} {seq : Int} {bk : Bool} (h : c.ok = true) (ho : o.ok = true) (S : SInv c o) (S' : SInv o c) (hm : c.mine seq = true) (hg : if bk then o.state.got.getD (seq - 1).toNat 0 ≠ 1 else o.state.got.getD (seq - 1).toNat 0 = 1) :
    sumL (c.settle seq bk) o = sumL c o ∧ sumN (c.settle seq bk) o = sumN c o := by
  simp only [Chain.mine, Bool.and_eq_true, In_iff] at hm
  obtain ⟨hm1, hm2⟩ := hm
  obtain ⟨h1, h2, h3, h4, h5, h6⟩ := chain_ok h
  obtain ⟨r1, r2, r3, r4, r5, r6, r7, r8, r9⟩ := state_ok h3
  have hi : (seq - 1).toNat < c.state.sent.length := by omega
  have hps := packet_iff.1 (sentOk_iff (r7 _ hi)).1
  generalize hix : (seq - 1).toNat = i at *
  generalize hpp : c.state.sent.getD i default = p at *
  have e2 : ∀ k, awayS o.state (c.settle seq bk).state k = awayS o.state c.state k := fun k => rfl
  have e1 : ∀ k, awayS (c.settle seq bk).state o.state k = awayS c.state o.state k - (if bk = true ∧ p.kind = k then p.sum else 0) := by
    intro k
    unfold awayS
    have hg2 : ∀ j, (c.settle seq bk).state.live.getD j false = if i = j then false else c.state.live.getD j false := by
      intro j; show (c.state.live.set (seq - 1).toNat false).getD j false = _
      rw [getD_set, hix]; by_cases e : i = j
      · rw [if_pos ⟨e, by omega⟩, if_pos e]
      · rw [if_neg (fun a => e a.1), if_neg e]
    have hs : (c.settle seq bk).state.sent = c.state.sent := rfl
    rw [hs, rsum_point (f := awF c.state o.state k) (g := awF (c.settle seq bk).state o.state k) hi (fun j hj hne => by have e := hg2 j; rw [if_neg (fun a => hne a.symm)] at e; unfold awF awB; rw [e, hs])]
    have a1 : awF c.state o.state k i = if bk = true ∧ p.kind = k then p.sum else 0 := by
      unfold awF awB; rw [hpp, hm2]; by_cases e : p.kind = k <;> cases bk <;> simp [-List.getD_eq_getElem?_getD] at hg <;> simp [-List.getD_eq_getElem?_getD, hg, e]
    have a2 : awF (c.settle seq bk).state o.state k i = 0 := by have e := hg2 i; rw [if_pos rfl] at e; unfold awF awB; rw [e]; simp
    rw [a1, a2]; omega
  have hsent : c.sentAt seq = p := by unfold Chain.sentAt; rw [hix, hpp]
  have hb : (c.settle seq bk).bank = if bk then c.bank.refund p else c.bank := by
    show (if bk then c.bank.refund (c.sentAt seq) else c.bank) = _
    rw [hsent]
  have hge : bk = true → p.sum ≤ awayS c.state o.state p.kind := by
    intro hb'; subst hb'
    have := rsum_ge (f := awF c.state o.state p.kind) hi (fun j hj => awF_in h3 hj)
    have a1 : awF c.state o.state p.kind i = p.sum := by
      unfold awF awB; rw [hpp, hm2]; simp [-List.getD_eq_getElem?_getD] at hg; simp [-List.getD_eq_getElem?_getD, hg]
    unfold awayS; omega
  unfold sumL sumN
  rw [e1, e1, e2, e2, hb]
  cases bk
  · simp
  · obtain ⟨o1, o2, o3, o4, o5, o6⟩ := chain_ok ho
    have ho3 := o3
    have b2 := bank_ok h2
    have bo := bank_ok o2
    have n1 := parts_all bo.2.1
    have n2 := parts_all b2.2.1
    have n3 := parts_all bo.1
    have p1 := (away_in (o := c.state) (k := 1) o3 (Nat.le_refl _)).1
    have p2 := (away_in (o := c.state) (k := 2) o3 (Nat.le_refl _)).1
    have p3 := (away_in (o := o.state) (k := 1) h3 (Nat.le_refl _)).1
    have p4 := (away_in (o := o.state) (k := 2) h3 (Nat.le_refl _)).1
    rw [sinv_iff] at S S'
    unfold awayS at *
    have hge := hge rfl
    have hback : c.bank.backB p.kind p.src p.sum = true := by
      rcases (show p.kind = 1 ∨ p.kind = 2 by omega) with hk | hk <;> rw [hk] at hge <;> simp [Bank.backB, hk] <;> omega
    obtain ⟨z1, z2⟩ := backD_sum (b := c.bank) (kind := p.kind) (sum := p.sum) h2 (dst := p.src) (by rw [In_iff]; omega)
    simp only [if_true, true_and, Bank.refund, Bank.back, hback]
    rw [z1, z2]
    rcases (show p.kind = 1 ∨ p.kind = 2 by omega) with hk | hk <;> simp [hk] <;> omega
theorem step_sums {c o : Chain} {q : State} {n : Int} (h : c.ok = true) : sumL (c.step q n) o = sumL c o ∧ sumN (c.step q n) o = sumN c o := by
  unfold Chain.step
  split
  · rename_i hm
    obtain ⟨e1, e2, e3, e4, e5⟩ := step_cases (chain_ok h).2.2.1 hm
    exact same_sums e1 e2 e4 rfl rfl
  · exact ⟨rfl, rfl⟩
theorem on_sums {c o : Chain} {e : Event} (h : c.ok = true) (ho : o.ok = true) (Io : CInv o) (D : LInv c o) (D' : LInv o c) (S : SInv c o) (S' : SInv o c) : sumL (c.on o e) o = sumL c o ∧ sumN (c.on o e) o = sumN c o := by
  unfold Chain.on
  split
  · unfold Chain.block; split <;> exact same_sums rfl rfl rfl rfl rfl
  split
  · unfold Chain.know; split <;> exact same_sums rfl rfl rfl rfl rfl
  split
  · unfold Chain.send
    split
    · exact send_sums h D ‹_›
    · exact ⟨rfl, rfl⟩
  split
  · unfold Chain.move
    split
    · rename_i hm
      have hm' := hm
      simp only [Bank.moveB, Bool.and_eq_true] at hm'
      obtain ⟨z1, z2⟩ := moveD_sum (b := c.bank) (kind := e.packet.kind) (sum := e.packet.sum) hm'.1 hm'.2.2.1 hm'.2.2.2.1
      exact same_sums rfl rfl rfl z1 z2
    · exact ⟨rfl, rfl⟩
  split
  · exact step_sums h
  unfold Chain.relay
  split
  · rename_i hB
    obtain ⟨x1, x2, x3⟩ := relay_at h ho hB
    have hmem : o.at e.height ∈ o.past := getD_mem (by omega)
    have M := Io.last _ hmem
    split
    · split
      · rename_i hp
        unfold Chain.get
        split
        · rename_i hg
          simp only [Chain.getB, State.hasB, State.gotAt, Bool.and_eq_true, In_iff] at hg
          obtain ⟨g1, ⟨⟨g2, g3⟩, g4, g5⟩, g6, g7, g8⟩ := hg
          have hi : (e.packet.seq - 1).toNat < (o.at e.height).sent.length := by omega
          refine got_sums h ho hp (Nat.lt_of_lt_of_le hi M.len) (by rw [M.sent _ hi]; exact of_decide_eq_true g4) ?_ rfl (of_decide_eq_true g6)
          -- live still: else it would have come, or be given back
          cases hl : o.state.live.getD (e.packet.seq - 1).toNat false
          · exfalso
            have hgz : c.state.got.getD (e.packet.seq - 1).toNat 0 = 0 := of_decide_eq_true g6
            have hsp := of_decide_eq_true g4
            have ht := of_decide_eq_true g8
            have hlt := Nat.lt_of_lt_of_le hi M.len
            cases hb : o.state.back.getD (e.packet.seq - 1).toNat false
            · have := D'.done _ hlt hl hb; omega
            · have := D'.bk _ hlt hb
              rw [M.sent _ hi, hsp] at this; omega
          · rfl
        · exact ⟨rfl, rfl⟩
      · exact ⟨rfl, rfl⟩
    split
    · unfold Chain.tell
      split
      · rename_i hg
        simp only [Chain.tellB, Bool.and_eq_true] at hg
        have hgt : (o.at e.height).got.getD (e.n - 1).toNat 0 ≠ 0 := of_decide_eq_true hg.2
        refine settle_sums h ho S S' hg.1 ?_
        have hnow := M.got _ hgt
        have hr := (state_ok x3).2.2.2.2.2.2.2.1 (e.n - 1).toNat (by
          have h3 := state_ok (chain_ok h).2.2.1
          have := hg.1
          simp only [Chain.mine, Bool.and_eq_true, In_iff] at this; omega)
        cases hd : decide ((o.at e.height).gotAt e.n = 2)
        · have := of_decide_eq_false hd
          unfold State.gotAt at this
          simp only [Bool.false_eq_true, if_false]; omega
        · have := of_decide_eq_true hd
          unfold State.gotAt at this
          simp only [if_true]; omega
      · exact ⟨rfl, rfl⟩
    split
    · unfold Chain.late
      split
      · rename_i hg
        simp only [Chain.lateB, State.gotAt, Chain.sentAt, Bool.and_eq_true] at hg
        refine settle_sums h ho S S' hg.1 ?_
        have ht := of_decide_eq_true hg.2.1
        have hz : (o.at e.height).got.getD (e.n - 1).toNat 0 = 0 := of_decide_eq_true hg.2.2
        have hm := hg.1
        simp only [Chain.mine, Bool.and_eq_true, In_iff] at hm
        have := D.time (e.n - 1).toNat (by omega) (e.height - 1).toNat (by omega) (by omega)
        unfold Chain.at at hz
        rw [hz] at this
        simp only [if_true]; omega
      · exact ⟨rfl, rfl⟩
    split
    · exact step_sums h
    · exact ⟨rfl, rfl⟩
  · exact ⟨rfl, rfl⟩
/-- All that stays so, with the sums. -/
structure ZInv (w : Two) : Prop where
  winv : WInv w
  ab : SInv w.a w.b
  ba : SInv w.b w.a
theorem zinv_new : ZInv Two.new := ⟨winv_new, by unfold SInv; decide, by unfold SInv; decide⟩
theorem zinv_on {w : Two} {e : Event} (I : ZInv w) : ZInv (w.on e) := by
  have hw := winv_on (e := e) I.winv
  obtain ⟨h1, h2, _⟩ := wOk_iff.1 I.winv.ok
  revert hw
  unfold Two.on
  split
  · intro hw
    obtain ⟨s1, s2⟩ := on_sums (e := e) h1 h2 I.winv.cb I.winv.ab I.winv.ba I.ab I.ba
    refine ⟨hw, ?_, ?_⟩
    · have := I.ab; unfold SInv at this ⊢; dsimp only at *; rw [s1]; exact this
    · have := sumN_iff.1 I.ba; rw [← s2] at this; exact sumN_iff.2 this
  split
  · intro hw
    obtain ⟨s1, s2⟩ := on_sums (e := e) h2 h1 I.winv.ca I.winv.ba I.winv.ab I.ba I.ab
    refine ⟨hw, ?_, ?_⟩
    · have := sumN_iff.1 I.ab; rw [← s2] at this; exact sumN_iff.2 this
    · have := I.ba; unfold SInv at this ⊢; dsimp only at *; rw [s1]; exact this
  · exact fun _ => I
theorem zinv_play (es : List Event) : ZInv (Two.new.play es) := by
  have : ∀ (es : List Event) (w : Two), ZInv w → ZInv (w.play es) := by
    intro es
    induction es with
    | nil => intro w h; exact h
    | cons e es ih => intro w h; exact ih _ (zinv_on h)
  exact this es _ zinv_new
end Go.Hw
