/- What is proved here: parts D8 of the walk of the law and of its plain side; no condition but those that each theorem states. -/
import Derived.Test.YtcbceacjhmblnaaGreatD7
/- Plain: where nobody sends, nobody has what is another's. -/
set_option linter.all false
namespace Go.Hw
structure Hush (c : Chain) : Prop where
  sent : c.state.sent = []
  live : c.state.live = []
  past : ∀ s ∈ c.past, s.sent = []
  lock : c.bank.locked = 0
  notes : c.bank.notes = [0, 0, 0]
theorem moveD_notes {b : Bank} {kind src dst sum : Int} (hm : b.moveB kind src dst sum = true) (hn : b.notes = [0, 0, 0]) : (b.moveD kind src dst sum).notes = [0, 0, 0] := by
  simp only [Bank.moveB, Bool.and_eq_true, decide_eq_true_eq] at hm
  obtain ⟨h, hk, hs, hd, h0, hA⟩ := hm
  simp only [Bank.at, Bank.list] at hA
  obtain ⟨own, notes, locked⟩ := b
  simp only at hn
  subst hn
  unfold Bank.moveD
  by_cases hk1 : kind = 1
  · simp only [Bank.dec, Bank.add, Bank.put, Bank.list, Bank.at, if_pos hk1]
  · rw [if_neg hk1] at hA
    rcases user_ix hs with e | e | e <;> rcases user_ix hd with e' | e' | e' <;> rw [e] at hA <;> simp only [Bank.dec, Bank.add, Bank.put, Bank.list, Bank.at, if_neg hk1, e, e', List.set_cons_zero, List.set_cons_succ, List.getD_cons_zero, List.getD_cons_succ] at hA ⊢ <;>
      (have z : sum = 0 := by omega) <;> subst z <;> rfl
theorem on_hush {c o : Chain} {e : Event} (hk : e.kind ≠ 3) (hc : c.ok = true) (ho : o.ok = true) (I : Hush c) (J : Hush o) : Hush (c.on o e) := by
  have hs : c.state.ok = true := (chain_ok hc).2.2.1
  unfold Chain.on
  split
  · unfold Chain.block; split
    · refine ⟨I.sent, I.live, fun s hs => ?_, I.lock, I.notes⟩
      rcases List.mem_append.1 hs with hs | hs
      · exact I.past s hs
      · have : s = c.state := by simpa using hs
        rw [this]; exact I.sent
    · exact I
  split
  · unfold Chain.know; split
    · exact ⟨I.sent, I.live, I.past, I.lock, I.notes⟩
    · exact I
  split
  · unfold Chain.move
    split
    · rename_i hm
      exact ⟨I.sent, I.live, I.past, by show (c.bank.moveD _ _ _ _).locked = 0; rw [locked_move]; exact I.lock, moveD_notes hm I.notes⟩
    · exact I
  have step : ∀ (q : State) (n : Int), Hush (c.step q n) := by
    intro q n
    unfold Chain.step
    split
    · rename_i hm
      obtain ⟨e1, e2, e3, e4, e5⟩ := step_cases hs hm
      exact ⟨by show (wayDo c.state q n).sent = []; rw [e1]; exact I.sent, by show (wayDo c.state q n).live = []; rw [e2]; exact I.live, I.past, I.lock, I.notes⟩
    · exact I
  split
  · exact step _ _
  unfold Chain.relay
  split
  · rename_i hB
    obtain ⟨x1, x2, x3⟩ := relay_at hc ho hB
    have hmem : o.at e.height ∈ o.past := getD_mem (by omega)
    have hq := J.past _ hmem
    split
    · split
      · unfold Chain.get
        split
        · rename_i hg
          simp only [Chain.getB, State.hasB, State.gotAt, Bool.and_eq_true, In_iff] at hg
          have := hg.2.1.1
          rw [hq] at this
          simp at this; omega
        · exact I
      · exact I
    split
    · unfold Chain.tell
      split
      · rename_i hg
        simp only [Chain.tellB, Chain.mine, State.gotAt, Bool.and_eq_true, In_iff] at hg
        have := hg.1.1
        rw [I.sent] at this
        simp at this; omega
      · exact I
    split
    · unfold Chain.late
      split
      · rename_i hg
        simp only [Chain.lateB, Chain.mine, State.gotAt, Chain.sentAt, Bool.and_eq_true, In_iff] at hg
        have := hg.1.1
        rw [I.sent] at this
        simp at this; omega
      · exact I
    split
    · exact step _ _
    · exact I
  · exact I
/-- The events without those that send. -/
def less (es : List Event) : List Event := es.filter (fun e => decide (e.kind ≠ 3))
theorem less_len (es : List Event) : (less es).length ≤ es.length := List.length_filter_le _ _
theorem less_step (es : List Event) (i : Nat) (h : i < es.length) : less (es.take (i + 1)) = less (es.take i) ++ (if (es.getD i default).kind = 3 then [] else [es.getD i default]) := by
  unfold less
  rw [List.take_succ, List.filter_append]
  simp only [List.getD, List.getElem?_eq_getElem h, Option.getD_some, Option.toList_some]
  split <;> simp_all
theorem less_play (es : List Event) : Hush (Two.new.play (less es)).a ∧ Hush (Two.new.play (less es)).b := by
  have hn : ∀ i, Hush (Chain.new i) := fun i => ⟨rfl, rfl, fun s hs => (by cases hs), rfl, rfl⟩
  have key : ∀ (es : List Event) (w : Two), (∀ e ∈ es, e.kind ≠ 3) → wOk w.list = true → Hush w.a → Hush w.b → Hush (w.play es).a ∧ Hush (w.play es).b := by
    intro es
    induction es with
    | nil => intro w _ _ h1 h2; exact ⟨h1, h2⟩
    | cons e es ih =>
      intro w he ho h1 h2
      have hk := he e (List.mem_cons_self ..)
      have hr : ∀ x ∈ es, x.kind ≠ 3 := fun x hx => he x (List.mem_cons_of_mem _ hx)
      obtain ⟨o1, o2, _⟩ := wOk_iff.1 ho
      have hw : Hush (w.on e).a ∧ Hush (w.on e).b := by
        unfold Two.on
        split
        · exact ⟨on_hush hk o1 o2 h1 h2, h2⟩
        split
        · exact ⟨h1, on_hush hk o2 o1 h2 h1⟩
        · exact ⟨h1, h2⟩
      exact ih (w.on e) hr (two_on_wOk ho) hw.1 hw.2
  exact key _ _ (fun e he => by simpa [less] using (List.mem_filter.1 he).2) two_new_wOk (hn _) (hn _)
end Go.Hw
