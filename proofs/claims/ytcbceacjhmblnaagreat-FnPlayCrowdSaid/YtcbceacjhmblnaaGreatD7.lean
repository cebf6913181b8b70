/- What is proved here: parts D7 of the walk of the law and of its plain side; no condition but those that each theorem states. -/
import Derived.Test.YtcbceacjhmblnaaGreatA4
/- Plain: where nothing is told of the other one, nothing begins. -/
set_option linter.all false
namespace Go.Hw
structure Deaf (c : Chain) : Prop where
  kn : c.knows = []
  way : c.state.way ≤ 1
  ver : c.state.ver = 1
  sent : c.state.sent = []
  live : c.state.live = []
  lock : c.bank.locked = 0
theorem locked_add (b : Bank) (k u n : Int) : (b.add k u n).locked = b.locked := by
  unfold Bank.add Bank.put; split <;> rfl
theorem locked_move (b : Bank) (k s d n : Int) : (b.moveD k s d n).locked = b.locked := by
  unfold Bank.moveD; rw [locked_add]; unfold Bank.dec Bank.put; split <;> rfl
theorem on_deaf {c o : Chain} {e : Event} (hk : e.kind ≠ 2) (I : Deaf c) : Deaf (c.on o e) := by
  have w := I.way
  unfold Chain.on
  split
  · unfold Chain.block; split
    · exact ⟨I.kn, I.way, I.ver, I.sent, I.live, I.lock⟩
    · exact I
  split
  · unfold Chain.send
    split
    · rename_i h
      simp only [Chain.sendB, Bool.and_eq_true, decide_eq_true_eq] at h
      omega
    · exact I
  split
  · unfold Chain.move
    split
    · exact ⟨I.kn, I.way, I.ver, I.sent, I.live, by show (c.bank.moveD _ _ _ _).locked = 0; rw [locked_move]; exact I.lock⟩
    · exact I
  split
  · rename_i h
    unfold Chain.step
    split
    · rename_i hm
      rcases h.2 with hn | hn
      · refine ⟨I.kn, ?_, ?_, ?_, ?_, I.lock⟩ <;> rw [hn] <;> simp [wayDo, I.ver, I.sent, I.live]
      · rw [hn] at hm; unfold wayMay at hm; simp at hm; omega
    · exact I
  unfold Chain.relay
  rw [if_neg]
  · exact I
  · unfold Chain.relayB; rw [I.kn]; simp
/-- The events without those that tell of the other one. -/
def deaf (es : List Event) : List Event := es.filter (fun e => decide (e.kind ≠ 2))
theorem deaf_len (es : List Event) : (deaf es).length ≤ es.length := List.length_filter_le _ _
theorem deaf_step (es : List Event) (i : Nat) (h : i < es.length) : deaf (es.take (i + 1)) = deaf (es.take i) ++ (if (es.getD i default).kind = 2 then [] else [es.getD i default]) := by
  unfold deaf
  rw [List.take_succ, List.filter_append]
  simp only [List.getD, List.getElem?_eq_getElem h, Option.getD_some, Option.toList_some]
  split <;> simp_all
theorem deaf_play (es : List Event) : Deaf (Two.new.play (deaf es)).a ∧ Deaf (Two.new.play (deaf es)).b := by
  have hn : ∀ i, Deaf (Chain.new i) := fun i => ⟨rfl, (show (0 : Int) ≤ 1 by omega), rfl, rfl, rfl, rfl⟩
  have key : ∀ (es : List Event) (w : Two), (∀ e ∈ es, e.kind ≠ 2) → Deaf w.a → Deaf w.b → Deaf (w.play es).a ∧ Deaf (w.play es).b := by
    intro es
    induction es with
    | nil => intro w _ h1 h2; exact ⟨h1, h2⟩
    | cons e es ih =>
      intro w he h1 h2
      have hk := he e (List.mem_cons_self ..)
      have hr : ∀ x ∈ es, x.kind ≠ 2 := fun x hx => he x (List.mem_cons_of_mem _ hx)
      have hw : Deaf (w.on e).a ∧ Deaf (w.on e).b := by
        unfold Two.on
        split
        · exact ⟨on_deaf hk h1, h2⟩
        split
        · exact ⟨h1, on_deaf hk h2⟩
        · exact ⟨h1, h2⟩
      exact ih (w.on e) hr hw.1 hw.2
  exact key _ _ (fun e he => by simpa [deaf] using (List.mem_filter.1 he).2) (hn _) (hn _)
end Go.Hw
