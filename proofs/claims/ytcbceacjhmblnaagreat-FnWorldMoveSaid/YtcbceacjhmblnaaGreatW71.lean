/- What is proved here: parts W71 of the walk of the law and of its plain side; no condition but those that each theorem states. -/
import Derived.Test.YtcbceacjhmblnaaGreatA3
import Derived.Test.YtcbceacjhmblnaaGreatD9
import Derived.Test.YtcbceacjhmblnaaGreatHw17
import Derived.Test.YtcbceacjhmblnaaGreatW70
/- What is proved: what the program adds up of what is on its way. -/
set_option linter.all false
set_option maxRecDepth 100000
set_option maxHeartbeats 4000000
namespace Go.Hw
open Go.Proofs
open Nat renaming reduceDiv → qa, reduceMod → qb, reduceAdd → qc, reduceMul → qd, reduceSub → qe, reduceLeDiff → qf, reduceBEq → qg, reduceEqDiff → qh, reduceBeqDiff → qi, reduceLT → qj
open Int renaming reduceToNat → qk, reduceAdd → ql, reduceSub → qm, reduceNeg → qn, reduceLT → qo, reduceLE → qp, reduceEq → qq, reduceBEq → qr, reduceBNe → qs
open Go.Hw renaming runG_split → gR, condG_split → gC, takG_split → gT, effG_split → gE
@[go_sem] theorem callA_mf {ti : Nat → Option TI} {s : St} (f : Fn) (x y : Array Operand) : callA ti s (.makeFunc f x y) = none := rfl
abbrev tallyV (h : Nat) : A1 := .c (.fp true 51 h 0 0 0)
attribute [go_sem] tallyV
theorem tally_ok (n x : Int) (h1 : -9223372036854775808 ≤ n + x) (h2 : n + x ≤ 9223372036854775807) : Call Tryz.prog 51 [.c (.ptr 0 0 0 0), I x] [(0, .box [ci n])] 1 (.tup []) [(0, .box [ci (n + x)])] 1 := by
  refine CallX.of tok Tryz.func51 rfl rfl Tryz.ntmps51 Tryz.results51 rfl (by decide) (fun cx hnt hk0 => ?_)
  repeat' (first | refine AWp.seq fun K hK => ?_ | refine hK _ ?_; clear hK K | refine hX ?_; clear hX hY X Y | refine hY ?_; clear hX hY X Y | refine AWp.block ?_ | refine hL _ _ ?_ | ((first | refine AWp.region tok (by rw [hnt]; rfl) ?_ | refine AWp.cond' fun X Y hX hY => ?_ | refine AWp.skip ?_ | refine AWp.exit ?_ | refine AWp.ret ?_ | refine Fin.auto [] ?_ | ((first | apply gR | apply gC) <;> intro hq <;> (try simp only [nT, nF, n1, n0] at hq) <;> (have hb := hq) <;> (try simp only [dT, dF, eT, eF] at hb) <;> first | (exfalso; omega) | ((try simp only [hq]); clear hq))) <;> (try simp only [go_sem, qa, qb, qc, qd, qe, qf, qg, qh, qi, qj, qk, ql, qm, qn, qo, qp, qq, qr, qs, reduceIte, reduceCtorEq])) | refine Fits.of ?_ ?_ | refine aL ?_ fun hp => ?_ | refine aE ?_ fun hp => ?_ | refine aC ?_ fun hp => ?_ | refine And.intro ?_ ?_ | clear hK K | clear hX hY X Y | clear hL L)
  all_goals try omega
theorem packetsSent_ok (s : State) : Call Tryz.prog 75 [s.av] [] 0 (.o (.c (.fp false 104 0 0 0 0))) [(0, s.box)] 1 := by
  refine CallX.of tok Tryz.func75 rfl rfl Tryz.ntmps75 Tryz.results75 rfl (by decide) (fun cx hnt hk0 => ?_)
  repeat' (first | refine AWp.seq fun K hK => ?_ | refine hK _ ?_; clear hK K | refine hX ?_; clear hX hY X Y | refine hY ?_; clear hX hY X Y | refine AWp.block ?_ | refine hL _ _ ?_ | ((first | refine AWp.region tok (by rw [hnt]; rfl) ?_ | refine AWp.cond' fun X Y hX hY => ?_ | refine AWp.skip ?_ | refine AWp.exit ?_ | refine AWp.ret ?_ | refine Fin.auto [] ?_ | ((first | apply gR | apply gC) <;> intro hq <;> (try simp only [nT, nF, n1, n0] at hq) <;> (have hb := hq) <;> (try simp only [dT, dF, eT, eF] at hb) <;> first | (exfalso; omega) | ((try simp only [hq]); clear hq))) <;> (try simp only [go_sem, qa, qb, qc, qd, qe, qf, qg, qh, qi, qj, qk, ql, qm, qn, qo, qp, qq, qr, qs, reduceIte, reduceCtorEq])) | refine Fits.of ?_ ?_ | refine aL ?_ fun hp => ?_ | refine aE ?_ fun hp => ?_ | refine aC ?_ fun hp => ?_ | refine And.intro ?_ ?_ | clear hK K | clear hX hY X Y | clear hL L)
  all_goals try omega
theorem addAway_ok (n : Int) (s o : State) (k : Int) (h0 : 0 ≤ n) (hn : n ≤ 1000) (hs : s.ok = true) (ho : o.ok = true) : Call Tryz.prog 50 [tallyV 0, s.av, o.av, I k] [(0, .box [ci n])] 1 (.tup []) [(0, .box [ci (n + awayS s o k)])] 1 := by
  obtain ⟨r1, r2, r3, r4, r5, r6, r7, r8, r9⟩ := state_ok hs
  obtain ⟨t1, t2, t3, t4, t5, t6, t7, t8, t9⟩ := state_ok ho
  refine CallX.of tok Tryz.func50 rfl rfl Tryz.ntmps50 Tryz.results50 rfl (by decide) (fun cx hnt hk0 => ?_)
  repeat' (first | refine AWp.seq fun K hK => ?_ | refine hK _ ?_; clear hK K | refine hX ?_; clear hX hY X Y | refine hY ?_; clear hX hY X Y | refine AWp.block ?_ | refine hL _ _ ?_ | ((first | refine AWp.region tok (by rw [hnt]; rfl) ?_ | refine AWp.cond' fun X Y hX hY => ?_ | refine AWp.skip ?_ | refine AWp.exit ?_ | refine AWp.ret ?_ | refine Fin.auto [] ?_ | refine runS_c [] (packetsSent_ok s) rfl ?_ ?_ ?_ | ((first | apply gR | apply gC) <;> intro hq <;> (try simp only [nT, nF, n1, n0] at hq) <;> (have hb := hq) <;> (try simp only [dT, dF, eT, eF] at hb) <;> first | (exfalso; omega) | ((try simp only [hq]); clear hq))) <;> (try simp only [go_sem, qa, qb, qc, qd, qe, qf, qg, qh, qi, qj, qk, ql, qm, qn, qo, qp, qq, qr, qs, reduceIte, reduceCtorEq])) | refine Fits.of ?_ ?_ | refine aL ?_ fun hp => ?_ | refine aE ?_ fun hp => ?_ | refine aC ?_ fun hp => ?_ | refine And.intro ?_ ?_ | clear hK K | clear hX hY X Y | clear hL L)
  all_goals try omega
  refine AWp.range (packets_iter s.sent.length r3 (tP s.sent)) ⟨_, Tryz.func104, rfl, rfl⟩
    [(4, .o (.c (.ptr 1 0 0 0))), (5, .o (.c (.ptr 2 0 0 0))), (6, .o (.c (.ptr 3 0 0 0))), (7, .o (.c (.ptr 4 0 0 0))), (10, .o (.c (.fp false 104 5 0 0 0)))]
    (fun i => [(5, s.box), (4, .box [ci k]), (3, o.box), (2, s.box), (1, .box [.fp true 51 0 0 0 0]), (0, .box [ci (n + rsum (awF s o k) i)])]) 6 6
    (fun i => ⟨(8, .o (.c (.ptr 6 0 0 0))) :: [(4, .o (.c (.ptr 1 0 0 0))), (5, .o (.c (.ptr 2 0 0 0))), (6, .o (.c (.ptr 3 0 0 0))), (7, .o (.c (.ptr 4 0 0 0)))], [(6, (s.sent.getD i default).box), (5, s.box), (4, .box [ci k]), (3, o.box), (2, s.box), (1, .box [.fp true 51 0 0 0 0]), (0, .box [ci (n + rsum (awF s o k) i)])], 7⟩)
    (bx := tab 7 0 fun j => .t (s.tv j)) ?_ rfl rfl rfl (by rw [hnt]; rfl) (by omega) (Nat.le_refl _) ?_ ?_ ?_ ?_
  · refine SLe.auto hk0 [] ?_; simp only [go_sem, qa, qb, qc, qd, qe, qf, qg, qh, qi, qj, qk, ql, qm, qn, qo, qp, qq, qr, qs, reduceIte, reduceCtorEq, rsum, Int.add_zero]
  · simp only [tOld, AV.old, A1.old, Cell.old]; decide
  · intro i hi cx hnt0 hk0
    have hnt : cx.nt = 39 := hnt0.trans hnt
    repeat' (first | refine AWpR.seq fun K hK => ?_ | refine hK _ ?_; clear hK K | refine hX ?_; clear hX hY X Y | refine hY ?_; clear hX hY X Y | refine AWpR.block ?_ | refine hL _ _ ?_ | ((first | refine AWpR.region tok (by rw [hnt]; rfl) ?_ | refine AWpR.cond' fun X Y hX hY => ?_ | refine AWpR.skip ?_ | refine AWpR.exit ?_ | refine AWpR.ret ?_ | refine Fin.auto [] ?_ | ((first | apply gR | apply gC) <;> intro hq <;> (try simp only [nT, nF, n1, n0] at hq) <;> (have hb := hq) <;> (try simp only [dT, dF, eT, eF] at hb) <;> first | (exfalso; omega) | ((try simp only [hq]); clear hq))) <;> (try simp only [go_sem, qa, qb, qc, qd, qe, qf, qg, qh, qi, qj, qk, ql, qm, qn, qo, qp, qq, qr, qs, reduceIte, reduceCtorEq])) | refine Fits.of ?_ ?_ | refine aL ?_ fun hp => ?_ | refine aE ?_ fun hp => ?_ | refine aC ?_ fun hp => ?_ | refine And.intro ?_ ?_ | clear hK K | clear hX hY X Y | clear hL L)
    refine SLe.auto hk0 [] ?_; simp only [go_sem, qa, qb, qc, qd, qe, qf, qg, qh, qi, qj, qk, ql, qm, qn, qo, qp, qq, qr, qs, reduceIte, reduceCtorEq]
  · intro i hi cx hnt0 hk0
    have hnt : cx.nt = 39 := hnt0.trans hnt
    obtain ⟨x1, x2, x3, x4⟩ := sentOk_iff (r7 i hi)
    have x5 := packet_iff.1 x1
    have y1 := away_in (o := o) (k := k) hs (m := i) (by omega)
    have y2 := awF_in (o := o) (k := k) hs hi
    have x6 : ((i : Int) + 1 - 1).toNat = i := by omega
    repeat' (first | refine AWpR.seq fun K hK => ?_ | refine hK _ ?_; clear hK K | refine hX ?_; clear hX hY X Y | refine hY ?_; clear hX hY X Y | refine AWpR.block ?_ | refine hL _ _ ?_ | ((first | refine AWpR.region tok (by rw [hnt]; rfl) ?_ | refine AWpR.cond' fun X Y hX hY => ?_ | refine AWpR.skip ?_ | refine AWpR.exit ?_ | refine AWpR.ret ?_ | refine Fin.auto [] ?_ | refine runS_c [_] (tally_ok (n + rsum (awF s o k) i) (s.sent.getD i default).sum (by omega) (by omega)) rfl ?_ ?_ ?_ | ((first | apply gR | apply gC) <;> intro hq <;> (try simp only [nT, nF, n1, n0] at hq) <;> (have hb := hq) <;> (try simp only [dT, dF, eT, eF] at hb) <;> first | (exfalso; omega) | ((try simp only [hq]); clear hq))) <;> (try simp only [go_sem, qa, qb, qc, qd, qe, qf, qg, qh, qi, qj, qk, ql, qm, qn, qo, qp, qq, qr, qs, reduceIte, reduceCtorEq, x2, x6])) | refine Fits.of ?_ ?_ | refine aL ?_ fun hp => ?_ | refine aE ?_ fun hp => ?_ | refine aC ?_ fun hp => ?_ | refine And.intro ?_ ?_ | clear hK K | clear hX hY X Y | clear hL L)
    all_goals try omega
    all_goals try
      refine SLe.auto hk0 [] ?_; simp only [go_sem, qa, qb, qc, qd, qe, qf, qg, qh, qi, qj, qk, ql, qm, qn, qo, qp, qq, qr, qs, reduceIte, reduceCtorEq, rsum, awF, awB, *, decide_true, decide_false, Bool.true_and, Bool.and_true, Bool.false_and, Bool.not_true, Bool.not_false, if_true, if_false, Bool.false_eq_true, Int.add_zero, Int.add_assoc]
  · simp only [go_sem, qa, qb, qc, qd, qe, qf, qg, qh, qi, qj, qk, ql, qm, qn, qo, qp, qq, qr, qs, reduceIte, reduceCtorEq, awayS]
    repeat' (first | refine AWp.seq fun K hK => ?_ | refine hK _ ?_; clear hK K | refine hX ?_; clear hX hY X Y | refine hY ?_; clear hX hY X Y | refine AWp.block ?_ | refine hL _ _ ?_ | ((first | refine AWp.region tok (by rw [hnt]; rfl) ?_ | refine AWp.cond' fun X Y hX hY => ?_ | refine AWp.skip ?_ | refine AWp.exit ?_ | refine AWp.ret ?_ | refine Fin.auto [] ?_ | ((first | apply gR | apply gC) <;> intro hq <;> (try simp only [nT, nF, n1, n0] at hq) <;> (have hb := hq) <;> (try simp only [dT, dF, eT, eF] at hb) <;> first | (exfalso; omega) | ((try simp only [hq]); clear hq))) <;> (try simp only [go_sem, qa, qb, qc, qd, qe, qf, qg, qh, qi, qj, qk, ql, qm, qn, qo, qp, qq, qr, qs, reduceIte, reduceCtorEq, awayS])) | refine Fits.of ?_ ?_ | refine aL ?_ fun hp => ?_ | refine aE ?_ fun hp => ?_ | refine aC ?_ fun hp => ?_ | refine And.intro ?_ ?_ | clear hK K | clear hX hY X Y | clear hL L)
    all_goals try omega
end Go.Hw
