/- What is proved here: parts of the walk of the law and of its plain side; no condition but those that each theorem states. -/
import Derived.Test.YtbdfdbkbmegcgaaGreatDoorPD1
import Derived.Test.YtbdfdbkbmegcgaaGreatDoorPH4
import Derived.Test.YtbdfdbkbmegcgaaGreatDoorPS1
set_option linter.all false
set_option maxRecDepth 1000000
set_option maxHeartbeats 16000000
open Int renaming reduceToNat→qk,reduceAdd→ql,reduceSub→qm,reduceNeg→qn,reduceLT→qo,reduceLE→qp,reduceEq→qq,reduceBEq→qr,reduceBNe→qs
open Nat renaming reduceDiv→qa,reduceMod→qb,reduceAdd→qc,reduceMul→qd,reduceSub→qe,reduceLeDiff→qf,reduceBEq→qg,reduceEqDiff→qh,reduceBeqDiff→qi,reduceLT→qj
open Go.Hw renaming runG_split→gR,condG_split→gC,takG_split→gT,effG_split→gE
open Go.Hw.AWp renaming region→vR,seq→vS,cond'→vC,block→vB,skip→vK,ret→vT,exit→vE
open Go.Hw.Fin renaming auto→vF
open Go.Hw.SLe renaming auto→vL
open Go.Hw.CallX renaming of→vO
namespace Go.Hw
open Go.Proofs
def State.small (s:State):Prop:=(s.sent.length:Int) < 1099511627776∧(s.got.length:Int) < 1099511627776
def Chain.small (c:Chain):Prop:=(c.bank.own.length:Int) < 1099511627776∧(c.bank.notes.length:Int) < 1099511627776∧c.bank.locked < 1099511627776∧c.state.small∧(c.past.length:Int) < 1099511627776∧(∀ i,(c.past.getD i default).small)∧(c.knows.length:Int) < 1099511627776
theorem ChainOk_ok (c:Chain) (hs:c.small):Call Tryz.prog 111 [c.av] [] 0 (.o (BB c.ok)) [] 0:=by
 obtain ⟨s1,s2,s3,s4,s5,s6,s7⟩:=hs
 refine vO tok Tryz.func111 rfl rfl Tryz.ntmps111 Tryz.results111 rfl (by decide) (fun cx hnt hk0=>?_)

 repeat' (first|refine vS fun K hK=>?_|refine hK _ ?_;clear hK K|refine hX ?_;clear hX hY X Y|refine hY ?_;clear hX hY X Y|refine vB ?_|((first|refine vR tok (by rw [hnt];rfl) ?_|refine vC fun X Y hX hY=>?_|refine vK ?_|refine vT ?_|refine vF [] ?_|refine runS_c [] (l6In_ok _ _ _) rfl ?_ ?_ ?_|refine runS_c [] (BankOk_ok c.bank s1 s2 s3) rfl ?_ ?_ ?_|refine runS_c [] (StateOk_ok c.state s4.1 s4.2) rfl ?_ ?_ ?_|((first|apply gR|apply gC)<;>intro hq<;>(try simp only [nT,nF,n1,n0] at hq)<;>(have hb:=hq)<;>(try simp only [dT,dF,eT,eF] at hb)<;>first|(exfalso;omega)|((try simp only [hq]);clear hq)))<;>(try simp only [go_sem,qa,qb,qc,qd,qe,qf,qg,qh,qi,qj,qk,ql,qm,qn,qo,qp,qq,qr,qs,reduceIte,reduceCtorEq]))|clear hK K)
 all_goals try (first|omega|(simp only [dA,dB,dC];omega))
 all_goals try (first|(simp [-List.getD_eq_getElem?_getD,Chain.ok, *];done)|(simp [-List.getD_eq_getElem?_getD,Chain.ok, *];omega)|(simp [-List.getD_eq_getElem?_getD,Chain.ok, *];intros;omega))
 refine AWp.loop (fun i:Nat=>⟨[(1,.o (.c (.ptr 0 0 0 0))),(2,.o (BB false)),(3,.o (I i))],[(0,c.box)],1⟩) (fun i=>i≤c.past.length∧rall i (fun i=>(c.past.getD i default).ok)=true) (fun i=>c.past.length - i) 0 ⟨Nat.zero_le _,rall_zero⟩ ?_ ?_
 · refine vL hk0 [] ?_;simp only [go_sem,qa,qb,qc,qd,qe,qf,qg,qh,qi,qj,qk,ql,qm,qn,qo,qp,qq,qr,qs,reduceIte,reduceCtorEq]
   simp
 intro i ⟨hi,hr⟩
 repeat' (first|refine vS fun K hK=>?_|refine hK _ ?_;clear hK K|refine hX ?_;clear hX hY X Y|refine hY ?_;clear hX hY X Y|refine vB ?_|((first|refine vR tok (by rw [hnt];rfl) ?_|refine vC fun X Y hX hY=>?_|refine vK ?_|refine vE ?_|refine vT ?_|refine vF [] ?_|(refine runS_c [] (StateOk_ok (c.past.getD i default) (s6 i).1 (s6 i).2) rfl ?_ ?_ ?_)|refine vL hk0 [] ?_|(apply gC<;>intro hq<;>(try simp only [nT,nF,n1,n0] at hq)<;>(have hb:=hq)<;>(try simp only [dT,dF,eT,eF] at hb)<;>first|(exfalso;omega)|((try simp only [hq]);clear hq)))<;>(try simp only [go_sem,qa,qb,qc,qd,qe,qf,qg,qh,qi,qj,qk,ql,qm,qn,qo,qp,qq,qr,qs,reduceIte,reduceCtorEq]))|refine ⟨i+1,?_,?_,?_⟩|refine Fits.of ?_ ?_|refine aE ?_ fun hp=>?_|refine aC ?_ fun hp=>?_|refine And.intro ?_ ?_|clear hK K)
 all_goals try (first|omega|(simp only [dA,dB,dC];omega))
 · have h9:=rall_false (p:=fun i=>(c.past.getD i default).ok) (i:=i) (n:=c.past.length) (by omega) (by simpa using hb)
   simp only [Chain.ok,h9];simp
 · exact rall_succ hr (by simpa using hb)
 have hr2:rall c.past.length (fun i=>(c.past.getD i default).ok)=true:=by rw [show c.past.length=i from by omega];exact hr
 refine AWp.loop (fun i:Nat=>⟨[(1,.o (.c (.ptr 0 0 0 0))),(2,.o (BB false)),(4,.o (I i))],[(0,c.box)],1⟩) (fun i=>i≤c.knows.length∧rall i (knowOk c.knows)=true) (fun i=>c.knows.length - i) 0 ⟨Nat.zero_le _,rall_zero⟩ ?_ ?_
 · refine vL hk0 [] ?_;simp only [go_sem,qa,qb,qc,qd,qe,qf,qg,qh,qi,qj,qk,ql,qm,qn,qo,qp,qq,qr,qs,reduceIte,reduceCtorEq]
   simp
 intro j ⟨hj,hrj⟩
 repeat' (first|refine vS fun K hK=>?_|refine hK _ ?_;clear hK K|refine hX ?_;clear hX hY X Y|refine hY ?_;clear hX hY X Y|refine vB ?_|((first|refine vR tok (by rw [hnt];rfl) ?_|refine vC fun X Y hX hY=>?_|refine vK ?_|refine vE ?_|refine vT ?_|refine vF [] ?_|(refine AWp.draw (id:=11) tok mixed (.tak 0 (.tak 1 (.tak 2 (.tak 3 (.tak 4 (.all (.cons 5 (.tak 6 (.tak 7 (.tak 8 (.tak 9 (.tak 10 (.tak 11 (.tak 12 (.tak 13 (.tak 14 (.tak 15 (.tak 16 (.tak 17 (.tak 18 (.tak 19 (.tak 20 (.tak 21 (.tak 22 (.tak 23 (.tak 24 .done))))))))))))))))))) .nil))))))) [0] [1,4] (by kernel_rfl) (by kernel_rfl) (by rw [hnt];rfl) ?_)|refine effS_c [] (l6In_ok _ _ _) rfl ?_ ?_ ?_|refine vL hk0 [] ?_|((first|apply gC|apply gT)<;>intro hq<;>(try simp only [nT,nF,n1,n0] at hq)<;>(have hb:=hq)<;>(try simp only [dT,dF,eT,eF] at hb)<;>first|(exfalso;omega)|((try simp only [hq]);clear hq)))<;>(try simp only [go_sem,qa,qb,qc,qd,qe,qf,qg,qh,qi,qj,qk,ql,qm,qn,qo,qp,qq,qr,qs,reduceIte,reduceCtorEq]))|refine ⟨j+1,?_,?_,?_⟩|refine Fits.of ?_ ?_|refine aE ?_ fun hp=>?_|refine aC ?_ fun hp=>?_|refine And.intro ?_ ?_|clear hK K)
 all_goals try (first|omega|(simp only [dA,dB,dC];omega))
 all_goals try (have h0:knowOk c.knows j=false:=by simp only [knowOk, *,decide_true,decide_false,Bool.true_and,Bool.and_true,Bool.false_and,Bool.and_false,Bool.not_true,Bool.not_false,Bool.and_self,Bool.true_or,Bool.or_true,Bool.false_or,Bool.or_false,cond_true,cond_false,not_true_eq_false,not_false_eq_true]
                have h9:=rall_false (p:=knowOk c.knows) (i:=j) (n:=c.knows.length) (by omega) h0
                simp only [Chain.ok,h9];simp;done)
 all_goals try (refine rall_succ hrj ?_;simp only [knowOk, *,decide_true,decide_false,Bool.true_and,Bool.and_true,Bool.false_and,Bool.and_false,Bool.not_true,Bool.not_false,Bool.and_self,Bool.true_or,Bool.or_true,Bool.false_or,Bool.or_false,cond_true,cond_false,not_true_eq_false,not_false_eq_true];done)
 have hr3:rall c.knows.length (knowOk c.knows)=true:=by rw [show c.knows.length=j from by omega];exact hrj
 have h8:(c.past.length:Int)≤90:=by omega
 simp only [Chain.ok,hr2,hr3];simp [-List.getD_eq_getElem?_getD, *]
theorem WorldOk_ok (w:List Chain) (hs:∀ i,(w.getD i default).small) (hw:(w.length:Int) < 1099511627776):Call Tryz.prog 78 [.g [.t (chainsT w)]] [] 0 (.o (BB (wOk w))) [] 0:=by
 refine vO tok Tryz.func78 rfl rfl Tryz.ntmps78 Tryz.results78 rfl (by decide) (fun cx hnt hk0=>?_)

 repeat' (first|refine vS fun K hK=>?_|refine hK _ ?_;clear hK K|refine hX ?_;clear hX hY X Y|refine hY ?_;clear hX hY X Y|refine vB ?_|((first|refine vR tok (by rw [hnt];rfl) ?_|refine vC fun X Y hX hY=>?_|refine vK ?_|refine vT ?_|refine vF [] ?_|(apply gC<;>intro hq<;>(try simp only [nT,nF,n1,n0] at hq)<;>(have hb:=hq)<;>(try simp only [dT,dF,eT,eF] at hb)<;>first|(exfalso;omega)|((try simp only [hq]);clear hq)))<;>(try simp only [go_sem,qa,qb,qc,qd,qe,qf,qg,qh,qi,qj,qk,ql,qm,qn,qo,qp,qq,qr,qs,reduceIte,reduceCtorEq]))|clear hK K)
 all_goals try (first|(simp [-List.getD_eq_getElem?_getD,wOk, *];done)|(simp [-List.getD_eq_getElem?_getD,wOk, *];omega)|(simp [-List.getD_eq_getElem?_getD,wOk, *];intros;omega))
 refine AWp.loopN 3 fun L hL=>?_
 have a0:=hs 0
 have a1:=hs 1
 repeat' (first|refine vS fun K hK=>?_|refine hK _ ?_;clear hK K|refine hX ?_;clear hX hY X Y|refine hY ?_;clear hX hY X Y|refine vB ?_|refine hL _ _ ?_|((first|refine vR tok (by rw [hnt];rfl) ?_|refine vC fun X Y hX hY=>?_|refine vK ?_|refine vE ?_|refine vT ?_|refine vF [] ?_|(refine AWp.draw (id:=7) tok mixed (.tak 0 (.all (.cons 1 (.tak 2 (.tak 3 (.tak 4 (.tak 5 (.tak 6 (.tak 7 (.tak 8 (.tak 9 (.tak 10 (.tak 11 (.tak 12 (.tak 13 (.tak 14 (.tak 15 (.tak 16 (.tak 17 (.tak 18 (.tak 19 (.tak 20 (.tak 21 (.tak 22 (.tak 23 (.tak 24 (.tak 25 (.tak 26 (.tak 27 (.tak 28 (.tak 29 (.tak 30 (.tak 31 (.tak 32 (.tak 33 (.tak 34 .done))))))))))))))))))))))))))))))))) .nil))) [0,1,2] [1,3,4] (by kernel_rfl) (by kernel_rfl) (by rw [hnt];rfl) ?_)|(refine effS_c [] (ChainOk_ok (w.getD 0 default) a0) rfl ?_ ?_ ?_)|(refine effS_c [] (ChainOk_ok (w.getD 1 default) a1) rfl ?_ ?_ ?_)|((first|apply gC|apply gT)<;>intro hq<;>(try simp only [nT,nF,n1,n0] at hq)<;>(have hb:=hq)<;>(try simp only [dT,dF,eT,eF] at hb)<;>first|(exfalso;omega)|((try simp only [hq]);clear hq)))<;>(try simp only [go_sem,qa,qb,qc,qd,qe,qf,qg,qh,qi,qj,qk,ql,qm,qn,qo,qp,qq,qr,qs,reduceIte,reduceCtorEq]))|refine Fits.of ?_ ?_|refine aL ?_ fun hp=>?_|refine aE ?_ fun hp=>?_|refine aC ?_ fun hp=>?_|refine And.intro ?_ ?_|clear hK K|clear hL L)
 all_goals try (first|omega|(simp only [dA,dB,dC];omega))
 all_goals try (have q0:(((w.getD 0 default).knows.length:Int)) < 1099511627776:=a0.2.2.2.2.2.2
                have q1:(((w.getD 1 default).knows.length:Int)) < 1099511627776:=a1.2.2.2.2.2.2
                omega)
 all_goals (simp only [wOk,kOk, *,decide_true,decide_false,Bool.true_and,Bool.and_true,Bool.false_and,Bool.and_false,Bool.not_true,Bool.not_false,Bool.and_self,Bool.true_or,Bool.or_true,Bool.false_or,Bool.or_false,cond_true,cond_false,not_true_eq_false,not_false_eq_true])
end Go.Hw
namespace Go.Hw
theorem ok_small {c:Chain} (h:c.ok=true):c.small:=by
 obtain ⟨q1,q2,q3,q4,q5,q6⟩:=chain_ok h
 have q7:=knows_len q6
 obtain ⟨b1,b2,b3,b4,b5⟩:=bank_ok q2
 have b6:=parts_len b1
 have b7:=parts_len b2
 have b8:=parts_all b1
 obtain ⟨r1,r2,r3,r4,r5,r6,r7,r8,r9⟩:=state_ok q3
 refine ⟨by omega,by omega,by omega,⟨by omega,by omega⟩,by omega,fun i=>?_,by omega⟩
 by_cases hi:i < c.past.length
 · obtain ⟨r1,r2,r3,r4,r5,r6,r7,r8,r9⟩:=state_ok (q5 i hi)
   exact ⟨by omega,by omega⟩
 · have:c.past.getD i default=default:=by simp [List.getD,List.getElem?_eq_none (Nat.le_of_not_lt hi)]
   rw [this];exact ⟨by decide,by decide⟩
theorem def_small (j:Nat):((default:Chain).past.getD j default).small:=by
 have h:(default:State).small:=⟨by decide,by decide⟩
 have e:(default:Chain).past.getD j default=default:=by
   have:(default:Chain).past=[]:=rfl
   rw [this];simp [List.getD]
 rw [e];exact h
theorem def_small2:(default:Chain).small:=⟨by decide,by decide,by decide,⟨by decide,by decide⟩,by decide,def_small,by decide⟩
theorem two_small {a b:Chain} (h1:a.ok=true) (h2:b.ok=true):∀ i,(([a,b]:List Chain).getD i default).small
 | 0=>ok_small h1
 | 1=>ok_small h2
 | i+2=>def_small2
end Go.Hw
namespace Go.Hw
open Go.Proofs
section
attribute [local irreducible] Chain.ons carryE Chain.ok Two.on Two.carry evBlock
theorem carry_ok1 (x y:Chain) (hx:x.ok=true) (hy:y.ok=true):((⟨x,y⟩:Two).carry 1).a.ok=true∧((⟨x,y⟩:Two).carry 1).b.ok=true:=by
 rw [carry_1]
 exact And.intro (ons_ok hx hy (carryE y 1)) hy
theorem carry_ok2 (x y:Chain) (hx:x.ok=true) (hy:y.ok=true):((⟨x,y⟩:Two).carry 2).a.ok=true∧((⟨x,y⟩:Two).carry 2).b.ok=true:=by
 rw [carry_2]
 exact And.intro hx (ons_ok hy hx (carryE x 2))
theorem carry_okA (v:Two) (h:v.a.ok=true∧v.b.ok=true):(v.carry 1).a.ok=true∧(v.carry 1).b.ok=true:=by
 cases v with
 | mk x y=>exact carry_ok1 x y h.1 h.2
theorem carry_okB (v:Two) (h:v.a.ok=true∧v.b.ok=true):(v.carry 2).a.ok=true∧(v.carry 2).b.ok=true:=by
 cases v with
 | mk x y=>exact carry_ok2 x y h.1 h.2
theorem round_ok (v:Two) (h:v.a.ok=true∧v.b.ok=true):v.round.a.ok=true∧v.round.b.ok=true:=by
 have h1:(v.on (evBlock 1)).a.ok=true∧(v.on (evBlock 1)).b.ok=true:=two_on_ok h
 have h2:((v.on (evBlock 1)).on (evBlock 2)).a.ok=true∧((v.on (evBlock 1)).on (evBlock 2)).b.ok=true:=two_on_ok h1
 have h3:=carry_okA _ h2
 have h4:=carry_okB _ h3
 unfold Two.round
 exact h4
theorem calm_ok (w:Two) (h:w.a.ok=true∧w.b.ok=true) (n:Nat):(w.calm n).a.ok=true∧(w.calm n).b.ok=true:=by
 induction n with
 | zero=>unfold Two.calm;exact h
 | succ n ih=>unfold Two.calm;exact round_ok _ ih
end
theorem WorldCalm_ok (a b:Chain) (hok:wOk [a,b]=true) (n:Nat) (hn:n≤30):Call Tryz.prog 52 [.g [.t (chainsT (Two.list ⟨a,b⟩))],I n] [] 0 (.o (.g (worldA 0))) (worldH ((⟨a,b⟩:Two).calm n) 0) 17:=by
 have hab:=wOk_iff.1 hok
 have hin:In (n:Int) 0 30=true:=by simp [In];omega
 have cW:=WorldOk_ok [a,b] (two_small hab.1 hab.2.1) (by simp)
 rw [hok] at cW
 have cC:=l21Copy_ok a b hab.1 hab.2.1
 refine vO tok Tryz.func52 rfl rfl Tryz.ntmps52 Tryz.results52 rfl (by decide) (fun cx hnt hk0=>?_)
 repeat' (first|refine vS fun K hK=>?_|refine hK _ ?_;clear hK K|refine hY ?_;clear hX hY X Y|refine vB ?_|((first|refine vR tok (by rw [hnt];rfl) ?_|refine vC fun X Y hX hY=>?_|refine vK ?_|refine runS_c [] (cW) rfl ?_ ?_ ?_|refine runS_c [] (l6In_ok _ _ _) rfl ?_ ?_ ?_|(refine runS_c [] (cC) rfl ?_ ?_ ?_))<;>(try simp only [go_sem,qa,qb,qc,qd,qe,qf,qg,qh,qi,qj,qk,ql,qm,qn,qo,qp,qq,qr,qs,reduceIte,reduceCtorEq,hin,Two.list])))
 all_goals try omega
 refine AWp.loop (fun i:Nat=>⟨[(1,.o (I n)),(4,.o (.c (.ptr 1 0 0 0))),(5,.o (.c (.ptr 2 0 0 0))),(6,.o (I i))],(1,.box [.t (.v (.slice none 0 0))]) ::(2,.box (worldA 3)) ::worldH ((⟨a,b⟩:Two).calm i) 3,20⟩) (fun i=>i≤n) (fun i=>n - i) 0 (Nat.zero_le _) ?_ ?_
 · refine vL hk0 [] ?_;simp only [go_sem,qa,qb,qc,qd,qe,qf,qg,qh,qi,qj,qk,ql,qm,qn,qo,qp,qq,qr,qs,reduceIte,reduceCtorEq,Two.calm]
   all_goals first|rfl|omega|simp
 intro i hi
 by_cases hlt:i < n
 · have ih:=calm_ok ⟨a,b⟩ ⟨hab.1,hab.2.1⟩ i
   have h1:=two_on_ok (e:=evBlock 1) ih
   have h2:=two_on_ok (e:=evBlock 2) h1
   have k1:=l21Do_ok ((⟨a,b⟩:Two).calm i) (evBlock 1) ih.1 ih.2
   have k2:=l21Do_ok (((⟨a,b⟩:Two).calm i).on (evBlock 1)) (evBlock 2) h1.1 h1.2
   have k3:=l21Carry_1 ((((⟨a,b⟩:Two).calm i).on (evBlock 1)).on (evBlock 2)).a ((((⟨a,b⟩:Two).calm i).on (evBlock 1)).on (evBlock 2)).b h2.1 h2.2
   have k4:=l21Carry_2 (((((⟨a,b⟩:Two).calm i).on (evBlock 1)).on (evBlock 2)).a.ons ((((⟨a,b⟩:Two).calm i).on (evBlock 1)).on (evBlock 2)).b (carryE ((((⟨a,b⟩:Two).calm i).on (evBlock 1)).on (evBlock 2)).b 1)) ((((⟨a,b⟩:Two).calm i).on (evBlock 1)).on (evBlock 2)).b (ons_ok h2.1 h2.2 _) h2.2
   have e1:(⟨a,b⟩:Two).calm (i+1)=⟨((((⟨a,b⟩:Two).calm i).on (evBlock 1)).on (evBlock 2)).a.ons ((((⟨a,b⟩:Two).calm i).on (evBlock 1)).on (evBlock 2)).b (carryE ((((⟨a,b⟩:Two).calm i).on (evBlock 1)).on (evBlock 2)).b 1),((((⟨a,b⟩:Two).calm i).on (evBlock 1)).on (evBlock 2)).b.ons (((((⟨a,b⟩:Two).calm i).on (evBlock 1)).on (evBlock 2)).a.ons ((((⟨a,b⟩:Two).calm i).on (evBlock 1)).on (evBlock 2)).b (carryE ((((⟨a,b⟩:Two).calm i).on (evBlock 1)).on (evBlock 2)).b 1)) (carryE (((((⟨a,b⟩:Two).calm i).on (evBlock 1)).on (evBlock 2)).a.ons ((((⟨a,b⟩:Two).calm i).on (evBlock 1)).on (evBlock 2)).b (carryE ((((⟨a,b⟩:Two).calm i).on (evBlock 1)).on (evBlock 2)).b 1)) 2)⟩:=by
     show Two.round _=_
     unfold Two.round
     generalize (((⟨a,b⟩:Two).calm i).on (evBlock 1)).on (evBlock 2)=v
     obtain ⟨x,y⟩:=v
     rw [carry_1,carry_2]
   generalize (((⟨a,b⟩:Two).calm i).on (evBlock 1)).on (evBlock 2)=v at k2 k3 k4 e1
   generalize v.a.ons v.b (carryE v.b 1)=x at k3 k4 e1
   generalize v.b.ons x (carryE x 2)=y at k4 e1
   repeat' (first|refine vS fun K hK=>?_|refine hK _ ?_;clear hK K|refine hX ?_;clear hX hY X Y|refine vB ?_|((first|refine vR tok (by rw [hnt];rfl) ?_|refine vC fun X Y hX hY=>?_|refine vK ?_|refine runS_c [3,4,5,6,7,8,9,10,11,12,13,14,15,16,17,18,19] (k1) rfl ?_ ?_ ?_|refine runS_c [20,21,22,23,24,25,26,27,28,29,30,31,32,33,34,35,36] (k2) rfl ?_ ?_ ?_|refine runS_c [37,38,39,40,41,42,43,44,45,46,47,48,49,50,51,52,53] (k3) rfl ?_ ?_ ?_|refine runS_c [37,54,55,56,57,58,59,60,61,46,47,48,49,50,51,52,53] (k4) rfl ?_ ?_ ?_|refine vL hk0 [] ?_|(apply gC<;>intro hq<;>(try simp only [nT,nF,n1,n0] at hq)<;>(have hb:=hq)<;>(try simp only [dT,dF,eT,eF] at hb)<;>first|(exfalso;omega)|((try simp only [hq]);clear hq)))<;>(try simp only [go_sem,qa,qb,qc,qd,qe,qf,qg,qh,qi,qj,qk,ql,qm,qn,qo,qp,qq,qr,qs,reduceIte,reduceCtorEq,e1]))|refine ⟨i+1,?_,?_,?_⟩|refine Fits.of ?_ ?_|refine And.intro ?_ ?_|clear hK K)
   all_goals try (first|omega|(simp only [dA,dB,dC];omega))
 · have e6:i=n:=by omega
   subst e6
   repeat' (first|refine vS fun K hK=>?_|refine hK _ ?_;clear hK K|refine hY ?_;clear hX hY X Y|((first|refine vR tok (by rw [hnt];rfl) ?_|refine vC fun X Y hX hY=>?_|refine vE ?_|refine vT ?_|refine vF [] ?_|(apply gC<;>intro hq<;>(try simp only [nT,nF,n1,n0] at hq)<;>(have hb:=hq)<;>(try simp only [dT,dF,eT,eF] at hb)<;>first|(exfalso;omega)|((try simp only [hq]);clear hq)))<;>(try simp only [go_sem,qa,qb,qc,qd,qe,qf,qg,qh,qi,qj,qk,ql,qm,qn,qo,qp,qq,qr,qs,reduceIte,reduceCtorEq]))|clear hK K)
   all_goals try omega
end Go.Hw
namespace Go.Hw
open Go.Proofs
theorem l6Dec_1 (n:Int) (h0:0≤n) (h1:n < 10):Call Tryz.prog 29 [I n] [] 0 (.o (U [UInt8.ofNat (48+n).toNat])) [] 0:=by
 refine vO tok Tryz.func29 rfl rfl Tryz.ntmps29 Tryz.results29 rfl (by decide) (fun cx hnt hk0=>?_)
 repeat' (first|refine vS fun K hK=>?_|refine hK _ ?_;clear hK K|refine hX ?_;clear hX hY X Y|refine hY ?_;clear hX hY X Y|((first|refine vR tok (by rw [hnt];rfl) ?_|refine vC fun X Y hX hY=>?_|refine vK ?_|refine vT ?_|refine vF [] ?_|(apply gC<;>intro hq<;>(try simp only [nT,nF,n1,n0] at hq)<;>(have hb:=hq)<;>(try simp only [dT,dF,eT,eF] at hb)<;>first|(exfalso;omega)|((try simp only [hq]);clear hq)))<;>(try simp only [go_sem,qa,qb,qc,qd,qe,qf,qg,qh,qi,qj,qk,ql,qm,qn,qo,qp,qq,qr,qs,reduceIte,reduceCtorEq]))|refine Fits.of ?_ ?_|refine aE ?_ fun hp=>?_|refine And.intro ?_ ?_|clear hK K)
 all_goals first|(rw [u8m];omega)|(rw [u8M];omega)|omega
theorem l6Dec_ok (n:Int) (h0:0≤n) (h1:n < 100):Call Tryz.prog 29 [I n] [] 0 (.o (U (decB n))) [] 0:=by
 by_cases h:n < 10
 · rw [show decB n=[UInt8.ofNat (48+n).toNat] from if_pos h];exact l6Dec_1 n h0 h
 rw [show decB n=[UInt8.ofNat (48+n / 10).toNat,UInt8.ofNat (48+n % 10).toNat] from if_neg h]
 have c1:=l6Dec_1 (n / 10) (by omega) (by omega)
 refine vO tok Tryz.func29 rfl rfl Tryz.ntmps29 Tryz.results29 rfl (by decide) (fun cx hnt hk0=>?_)

 repeat' (first|refine vS fun K hK=>?_|refine hK _ ?_;clear hK K|refine hY ?_;clear hX hY X Y|((first|refine vR tok (by rw [hnt];rfl) ?_|refine vC fun X Y hX hY=>?_|refine vK ?_|refine vT ?_|refine vF [] ?_|(refine AWp.draw (id:=7) tok mixed (.tak 0 (.tak 1 (.tak 3 (.tak 4 (.tak 5 (.tak 6 (.all (.cons 2 (.all (.cons 7 (.all (.cons 8 (.tak 9 (.tak 10 .done)) .nil)) .nil)) (.cons 7 (.all (.cons 2 (.all (.cons 8 (.tak 9 (.tak 10 .done)) .nil)) (.cons 8 (.all (.cons 2 (.tak 9 (.tak 10 .done)) .nil)) .nil))) .nil))))))))) [] [0] (by kernel_rfl) (by kernel_rfl) (by rw [hnt];rfl) ?_)|refine effS_c [] (c1) rfl ?_ ?_ ?_|(apply gC<;>intro hq<;>(try simp only [nT,nF,n1,n0] at hq)<;>(have hb:=hq)<;>(try simp only [dT,dF,eT,eF] at hb)<;>first|(exfalso;omega)|((try simp only [hq]);clear hq)))<;>(try simp only [go_sem,qa,qb,qc,qd,qe,qf,qg,qh,qi,qj,qk,ql,qm,qn,qo,qp,qq,qr,qs,reduceIte,reduceCtorEq]))|refine Fits.of ?_ ?_|refine aE ?_ fun hp=>?_|refine And.intro ?_ ?_|clear hK K)
 all_goals first|(rw [u8m];omega)|(rw [u8M];omega)|omega
theorem l2Dec_no (s:Str) (h:¬ (1≤s.length∧s.length≤2)) (hs:s.length≤1000000):Call Tryz.prog 76 [U s] [] 0 (.o (I (-1))) [] 0:=by
 have e:In (s.length:Int) 1 2=false:=by simp [In];omega
 refine vO tok Tryz.func76 rfl rfl Tryz.ntmps76 Tryz.results76 rfl (by decide) (fun cx hnt hk0=>?_)
 repeat' (first|refine vS fun K hK=>?_|refine hK _ ?_;clear hK K|refine hX ?_;clear hX hY X Y|((first|refine vR tok (by rw [hnt];rfl) ?_|refine vC fun X Y hX hY=>?_|refine vT ?_|refine vF [] ?_|(refine runS_c [] (l6In_ok _ _ _) rfl ?_ ?_ ?_))<;>(try simp only [go_sem,qa,qb,qc,qd,qe,qf,qg,qh,qi,qj,qk,ql,qm,qn,qo,qp,qq,qr,qs,reduceIte,reduceCtorEq,e])))
 all_goals omega
theorem l2Dec_1 (a:UInt8):Call Tryz.prog 76 [U [a]] [] 0 (.o (I (dec2 [a]))) [] 0:=by
 have ha:a.toNat < 256:=a.toNat_lt
 have e:In 1 1 2=true:=by decide
 rw [dec2_1]
 refine vO tok Tryz.func76 rfl rfl Tryz.ntmps76 Tryz.results76 rfl (by decide) (fun cx hnt hk0=>?_)
 repeat' (first|refine vS fun K hK=>?_|refine hK _ ?_;clear hK K|refine hY ?_;clear hX hY X Y|refine vB ?_|((first|refine vR tok (by rw [hnt];rfl) ?_|refine vC fun X Y hX hY=>?_|refine vK ?_|(refine runS_c [] (l6In_ok _ _ _) rfl ?_ ?_ ?_))<;>(try simp only [go_sem,qa,qb,qc,qd,qe,qf,qg,qh,qi,qj,qk,ql,qm,qn,qo,qp,qq,qr,qs,reduceIte,reduceCtorEq,e])))
 all_goals try omega
 refine AWp.loopN 2 fun L hL=>?_
 repeat' (first|refine vS fun K hK=>?_|refine hK _ ?_;clear hK K|refine hX ?_;clear hX hY X Y|refine hY ?_;clear hX hY X Y|refine vB ?_|refine hL _ _ ?_|((first|refine vR tok (by rw [hnt];rfl) ?_|refine vC fun X Y hX hY=>?_|refine vK ?_|refine vE ?_|refine vT ?_|refine vF [] ?_|((first|apply gR|apply gC)<;>intro hq<;>(try simp only [nT,nF,n1,n0] at hq)<;>(have hb:=hq)<;>(try simp only [dT,dF,eT,eF] at hb)<;>first|(exfalso;omega)|((try simp only [hq]);clear hq)))<;>(try simp only [go_sem,qa,qb,qc,qd,qe,qf,qg,qh,qi,qj,qk,ql,qm,qn,qo,qp,qq,qr,qs,reduceIte,reduceCtorEq,List.getD_cons_zero]))|refine Fits.of ?_ ?_|refine aL ?_ fun hp=>?_|refine aE ?_ fun hp=>?_|refine And.intro ?_ ?_|clear hK K|clear hL L)
 all_goals first|omega|(rw [u8m];omega)|(rw [u8M];omega)|(split<;>omega)
theorem l2Dec_2 (a b:UInt8):Call Tryz.prog 76 [U [a,b]] [] 0 (.o (I (dec2 [a,b]))) [] 0:=by
 have ha:a.toNat < 256:=a.toNat_lt
 have hbb:b.toNat < 256:=b.toNat_lt
 have e:In (1+1) 1 2=true:=by decide
 rw [dec2_2]
 refine vO tok Tryz.func76 rfl rfl Tryz.ntmps76 Tryz.results76 rfl (by decide) (fun cx hnt hk0=>?_)
 repeat' (first|refine vS fun K hK=>?_|refine hK _ ?_;clear hK K|refine hY ?_;clear hX hY X Y|refine vB ?_|((first|refine vR tok (by rw [hnt];rfl) ?_|refine vC fun X Y hX hY=>?_|refine vK ?_|(refine runS_c [] (l6In_ok _ _ _) rfl ?_ ?_ ?_))<;>(try simp only [go_sem,qa,qb,qc,qd,qe,qf,qg,qh,qi,qj,qk,ql,qm,qn,qo,qp,qq,qr,qs,reduceIte,reduceCtorEq,e])))
 all_goals try omega
 refine AWp.loopN 3 fun L hL=>?_
 repeat' (first|refine vS fun K hK=>?_|refine hK _ ?_;clear hK K|refine hX ?_;clear hX hY X Y|refine hY ?_;clear hX hY X Y|refine vB ?_|refine hL _ _ ?_|((first|refine vR tok (by rw [hnt];rfl) ?_|refine vC fun X Y hX hY=>?_|refine vK ?_|refine vE ?_|refine vT ?_|refine vF [] ?_|((first|apply gR|apply gC)<;>intro hq<;>(try simp only [nT,nF,n1,n0] at hq)<;>(have hb:=hq)<;>(try simp only [dT,dF,eT,eF] at hb)<;>first|(exfalso;omega)|((try simp only [hq]);clear hq)))<;>(try simp only [go_sem,qa,qb,qc,qd,qe,qf,qg,qh,qi,qj,qk,ql,qm,qn,qo,qp,qq,qr,qs,reduceIte,reduceCtorEq,List.getD_cons_zero,List.getD_cons_succ]))|refine Fits.of ?_ ?_|refine aL ?_ fun hp=>?_|refine aE ?_ fun hp=>?_|refine And.intro ?_ ?_|clear hK K|clear hL L)
 all_goals first|omega|(rw [u8m];omega)|(rw [u8M];omega)|(split<;>omega)
theorem l2Dec_ok (s:Str) (hs:s.length≤1000000):Call Tryz.prog 76 [U s] [] 0 (.o (I (dec2 s))) [] 0:=by
 by_cases h:1≤s.length∧s.length≤2
 · match s,h with
   | [],h=>simp at h
   | [a],_=>exact l2Dec_1 a
   | [a,b],_=>exact l2Dec_2 a b
   | _ ::_ ::_ ::_,h=>simp at h
 · rw [dec2_no s h];exact l2Dec_no s h hs
end Go.Hw
namespace Go.Hw
open Go.Proofs
attribute [local irreducible] Fits
theorem l31Num_ok (w:List Str) (k:Nat) (hk:k≤100) (hl:w.length≤1000000) (hw:∀ i,(w.getD i []).length≤1000000):Call Tryz.prog 48 [.c (.t (strsT w)),I k] [] 0 (.o (I (numAt w k))) [] 0:=by
 unfold numAt
 by_cases h:k < w.length
 · rw [if_pos h]
   refine vO tok Tryz.func48 rfl rfl Tryz.ntmps48 Tryz.results48 rfl (by decide) (fun cx hnt hk0=>?_)
   repeat' (first|refine vS fun K hK=>?_|refine hK _ ?_;clear hK K|refine hX ?_;clear hX hY X Y|((first|refine vR tok (by rw [hnt];rfl) ?_|refine vC fun X Y hX hY=>?_|refine vT ?_|refine vF [] ?_|(refine runS_c [] (l2Dec_ok _ (hw k)) rfl ?_ ?_ ?_)|(apply gC<;>intro hq<;>(try simp only [nT,nF,n1,n0] at hq)<;>(have hb:=hq)<;>(try simp only [dT,dF,eT,eF] at hb)<;>first|(exfalso;omega)|((try simp only [hq]);clear hq)))<;>(try simp only [go_sem,qa,qb,qc,qd,qe,qf,qg,qh,qi,qj,qk,ql,qm,qn,qo,qp,qq,qr,qs,reduceIte,reduceCtorEq]))|refine aE ?_ fun hp=>?_|refine aC ?_ fun hp=>?_|clear hK K)
   all_goals first|(first|omega|(unfold Big;omega)|(rw [u8m];omega)|(rw [u8M];omega)|(simp only [dA,dB,dC];omega))
 · rw [if_neg h]
   refine vO tok Tryz.func48 rfl rfl Tryz.ntmps48 Tryz.results48 rfl (by decide) (fun cx hnt hk0=>?_)
   repeat' (first|refine vS fun K hK=>?_|refine hK _ ?_;clear hK K|refine hY ?_;clear hX hY X Y|((first|refine vR tok (by rw [hnt];rfl) ?_|refine vC fun X Y hX hY=>?_|refine vK ?_|refine vT ?_|refine vF [] ?_|(apply gC<;>intro hq<;>(try simp only [nT,nF,n1,n0] at hq)<;>(have hb:=hq)<;>(try simp only [dT,dF,eT,eF] at hb)<;>first|(exfalso;omega)|((try simp only [hq]);clear hq)))<;>(try simp only [go_sem,qa,qb,qc,qd,qe,qf,qg,qh,qi,qj,qk,ql,qm,qn,qo,qp,qq,qr,qs,reduceIte,reduceCtorEq])))
   all_goals first|(first|omega|(unfold Big;omega)|(rw [u8m];omega)|(rw [u8M];omega)|(simp only [dA,dB,dC];omega))
theorem l31Tail_ok (w:List Str) (hl:w.length≤1000000) (hw:∀ i,(w.getD i []).length≤1000000):Call Tryz.prog 50 [.c (.t (strsT w))] [] 0 (.o (U (if w.length < 3 then [] else w.getD 1 []++[32]++w.getD 2 []++[32]))) [] 0:=by
 have h1:=hw 1
 have h2:=hw 2
 by_cases h:w.length < 3
 · rw [if_pos h]
   refine vO tok Tryz.func50 rfl rfl Tryz.ntmps50 Tryz.results50 rfl (by decide) (fun cx hnt hk0=>?_)
   repeat' (first|refine vS fun K hK=>?_|refine hK _ ?_;clear hK K|refine hX ?_;clear hX hY X Y|((first|refine vR tok (by rw [hnt];rfl) ?_|refine vC fun X Y hX hY=>?_|refine vT ?_|refine vF [] ?_|(apply gC<;>intro hq<;>(try simp only [nT,nF,n1,n0] at hq)<;>(have hb:=hq)<;>(try simp only [dT,dF,eT,eF] at hb)<;>first|(exfalso;omega)|((try simp only [hq]);clear hq)))<;>(try simp only [go_sem,qa,qb,qc,qd,qe,qf,qg,qh,qi,qj,qk,ql,qm,qn,qo,qp,qq,qr,qs,reduceIte,reduceCtorEq])))
   all_goals first|(first|omega|(unfold Big;omega)|(rw [u8m];omega)|(rw [u8M];omega)|(simp only [dA,dB,dC];omega))
 · rw [if_neg h]
   refine vO tok Tryz.func50 rfl rfl Tryz.ntmps50 Tryz.results50 rfl (by decide) (fun cx hnt hk0=>?_)
   repeat' (first|refine bL ?_|refine vS fun K hK=>?_|refine hK _ ?_;clear hK K|refine hY ?_;clear hX hY X Y|((first|refine vR tok (by rw [hnt];rfl) ?_|refine vC fun X Y hX hY=>?_|refine vK ?_|refine vT ?_|refine vF [] ?_|(refine AWp.draw (id:=3) tok mixed (.tak 0 (.tak 1 (.tak 2 (.tak 3 (.tak 4 (.tak 5 (.tak 6 (.tak 7 (.tak 8 (.tak 9 .done)))))))))) [] [0] (by kernel_rfl) (by kernel_rfl) (by rw [hnt];rfl) ?_)|(apply gC<;>intro hq<;>(try simp only [nT,nF,n1,n0] at hq)<;>(have hb:=hq)<;>(try simp only [dT,dF,eT,eF] at hb)<;>first|(exfalso;omega)|((try simp only [hq]);clear hq)))<;>(try simp only [go_sem,qa,qb,qc,qd,qe,qf,qg,qh,qi,qj,qk,ql,qm,qn,qo,qp,qq,qr,qs,reduceIte,reduceCtorEq]))|refine aL ?_ fun hp=>?_|refine aE ?_ fun hp=>?_|clear hK K)
   all_goals first|(first|omega|(unfold Big;omega)|(rw [u8m];omega)|(rw [u8M];omega)|(simp only [dA,dB,dC];omega))
theorem listT_snoc (l:List Int) (n:Int):listT (l++[n])=listT l++[32]++decB n:=by
 induction l with
 | nil=>simp [listT]
 | cons a l ih=>simp [listT,ih]
theorem decB_len (n:Int):(decB n).length≤2:=by unfold decB;split<;>simp
theorem listT_len (l:List Int):(listT l).length≤3 * l.length:=by
 induction l with
 | nil=>simp [listT]
 | cons a l ih=>have:=decB_len a;simp [listT];omega
theorem l31List_ok (l:List Int) (hl:l.length≤1000) (hbd:∀ i,0≤l.getD i 0∧l.getD i 0 < 100):Call Tryz.prog 82 [.c (.t (intsT l))] [] 0 (.o (U (listT l))) [] 0:=by
 refine vO tok Tryz.func82 rfl rfl Tryz.ntmps82 Tryz.results82 rfl (by decide) (fun cx hnt hk0=>?_)
 repeat' (first|refine vS fun K hK=>?_|refine hK _ ?_;clear hK K|refine vB ?_|((refine vR tok (by rw [hnt];rfl) ?_)<;>(try simp only [go_sem,qa,qb,qc,qd,qe,qf,qg,qh,qi,qj,qk,ql,qm,qn,qo,qp,qq,qr,qs,reduceIte,reduceCtorEq])))
 all_goals try (first|omega|(unfold Big;omega)|(rw [u8m];omega)|(rw [u8M];omega)|(simp only [dA,dB,dC];omega))
 refine AWp.loop (fun i:Nat=>⟨[(0,.o (.c (.t (intsT l)))),(3,.o (U (listT (l.take i)))),(4,.o (I i))],[],0⟩) (fun i=>i≤l.length) (fun i=>l.length - i) 0 (Nat.zero_le _) ?_ ?_
 · refine vL hk0 [] ?_;simp only [go_sem,qa,qb,qc,qd,qe,qf,qg,qh,qi,qj,qk,ql,qm,qn,qo,qp,qq,qr,qs,reduceIte,reduceCtorEq,List.take_zero,listT]
   all_goals simp
 intro i hi
 have h1:=listT_len (l.take i)
 have h2:(l.take i).length≤1000:=Nat.le_trans (List.length_take_le i l) (by omega)
 have h3:=decB_len (l.getD i 0)
 by_cases hlt:i < l.length
 · have e1:l.take (i+1)=l.take i++[l.getD i 0]:=by rw [List.take_succ];simp [List.getD,hlt]
   repeat' (first|refine bL ?_|refine vS fun K hK=>?_|refine hK _ ?_;clear hK K|refine hX ?_;clear hX hY X Y|refine vB ?_|((first|refine vR tok (by rw [hnt];rfl) ?_|refine vC fun X Y hX hY=>?_|refine vK ?_|(refine runS_c [] (l6Dec_ok _ (hbd i).1 (hbd i).2) rfl ?_ ?_ ?_)|refine vL hk0 [] ?_|(apply gC<;>intro hq<;>(try simp only [nT,nF,n1,n0] at hq)<;>(have hb:=hq)<;>(try simp only [dT,dF,eT,eF] at hb)<;>first|(exfalso;omega)|((try simp only [hq]);clear hq)))<;>(try simp only [go_sem,qa,qb,qc,qd,qe,qf,qg,qh,qi,qj,qk,ql,qm,qn,qo,qp,qq,qr,qs,reduceIte,reduceCtorEq,e1,listT_snoc]))|refine ⟨i+1,?_,?_,?_⟩|refine Fits.of ?_ ?_|refine aE ?_ fun hp=>?_|refine aC ?_ fun hp=>?_|refine And.intro ?_ ?_|clear hK K)
   all_goals try (first|omega|(unfold Big;omega)|(rw [u8m];omega)|(rw [u8M];omega)|(simp only [dA,dB,dC];omega))
 · have e2:l.take i=l:=List.take_of_length_le (by omega)
   rw [e2]
   repeat' (first|refine vS fun K hK=>?_|refine hK _ ?_;clear hK K|refine hY ?_;clear hX hY X Y|((first|refine vR tok (by rw [hnt];rfl) ?_|refine vC fun X Y hX hY=>?_|refine vE ?_|refine vT ?_|refine vF [] ?_|(apply gC<;>intro hq<;>(try simp only [nT,nF,n1,n0] at hq)<;>(have hb:=hq)<;>(try simp only [dT,dF,eT,eF] at hb)<;>first|(exfalso;omega)|((try simp only [hq]);clear hq)))<;>(try simp only [go_sem,qa,qb,qc,qd,qe,qf,qg,qh,qi,qj,qk,ql,qm,qn,qo,qp,qq,qr,qs,reduceIte,reduceCtorEq]))|clear hK K)
   all_goals first|(first|omega|(unfold Big;omega)|(rw [u8m];omega)|(rw [u8M];omega)|(simp only [dA,dB,dC];omega))
theorem cut_piece (c:UInt8) (s:Str) (i:Nat):((cut c s).getD i []).length≤s.length:=by
 have:∀ (s:Str) (out:List Str) (n:Nat),1≤out.length→(∀ i,(out.getD i []).length≤n)→∀ i,((s.foldl (cutStep c) out).getD i []).length≤n+s.length:=by
   intro s
   induction s with
   | nil=>intro out n _ h i;simpa using h i
   | cons b s ih =>
     intro out n h1 h i
     have h2:=cutStep_len (at_:=c) (b:=b) h1
     have:=ih (cutStep c out b) (n+1) (by omega) (fun i=>?_) i
     · simp only [List.foldl_cons,List.length_cons];omega
     · unfold cutStep
       split
       · simp only [List.getD,List.getElem?_append]
         split
         · have:=h i;simp only [List.getD] at this;omega
         · rcases hh:i - out.length with _|k<;>simp
       · simp only [List.getD,List.getElem?_set]
         split
         · split
           · have:=h (out.length - 1);simp only [List.getD] at this;simp;omega
           · simp
         · have:=h i;simp only [List.getD] at this;omega
 simpa [cut] using this s [[]] 0 (by simp) (fun i=>by rcases i with _|i<;>simp) i
theorem cut_take (c:UInt8) (s:Str) (i:Nat) (h:i < s.length):cut c (s.take (i+1))=cutStep c (cut c (s.take i)) (s.getD i 0):=by
 rw [List.take_succ,List.getElem?_eq_getElem h,Option.toList_some,cut_snoc]
 simp [List.getD,h]
theorem l2Cut_ok (s:Str) (c:UInt8) (hs:s.length≤900000):Call Tryz.prog 26 [U s,.c (.t (.v (.int .u8 c.toNat)))] [] 0 (.o (.c (.sl 0 1 0 (cut c s).length))) [(0,rU (cut c s))] 1:=by
 refine vO tok Tryz.func26 rfl rfl Tryz.ntmps26 Tryz.results26 rfl (by decide) (fun cx hnt hk0=>?_)

 repeat' (first|refine vS fun K hK=>?_|refine hK _ ?_;clear hK K|refine vB ?_|((refine vR tok (by rw [hnt];rfl) ?_)<;>(try simp only [go_sem,qa,qb,qc,qd,qe,qf,qg,qh,qi,qj,qk,ql,qm,qn,qo,qp,qq,qr,qs,reduceIte,reduceCtorEq])))
 all_goals try (first|omega|(unfold Big;omega)|(rw [u8m];omega)|(rw [u8M];omega)|(simp only [dA,dB,dC];omega))
 refine AWp.loop (fun i:Nat=>⟨[(0,.o (U s)),(1,.o (.c (.t (.v (.int .u8 c.toNat))))),(5,.o (.c (.sl 0 1 0 (cut c (s.take i)).length))),(6,.o (I i))],[(0,rU (cut c (s.take i)))],1⟩) (fun i=>i≤s.length) (fun i=>s.length - i) 0 (Nat.zero_le _) ?_ ?_
 · refine vL hk0 [] ?_;simp only [go_sem,qa,qb,qc,qd,qe,qf,qg,qh,qi,qj,qk,ql,qm,qn,qo,qp,qq,qr,qs,reduceIte,reduceCtorEq,List.take_zero,cut,List.foldl_nil]
   all_goals simp
 intro i hi
 have h1:=cut_len c (s.take i)
 have h2:(s.take i).length≤900000:=Nat.le_trans (List.length_take_le i s) (by omega)
 by_cases hlt:i < s.length
 · have e1:=cut_take c s i hlt
   by_cases hc:s.getD i 0=c
   · rw [cutStep,if_pos hc] at e1
     repeat' (first|refine bL ?_|refine vS fun K hK=>?_|refine hK _ ?_;clear hK K|refine hX ?_;clear hX hY X Y|refine vB ?_|((first|refine vR tok (by rw [hnt];rfl) ?_|refine vC fun X Y hX hY=>?_|refine vK ?_|refine vL hk0 [] ?_|(apply gC<;>intro hq<;>(try simp only [nT,nF,n1,n0] at hq)<;>(have hb:=hq)<;>(try simp only [dT,dF,eT,eF] at hb)<;>first|(exfalso;omega)|((try simp only [hq]);clear hq)))<;>(try simp only [go_sem,qa,qb,qc,qd,qe,qf,qg,qh,qi,qj,qk,ql,qm,qn,qo,qp,qq,qr,qs,reduceIte,reduceCtorEq,e1,hc]))|refine ⟨i+1,?_,?_,?_⟩|refine Fits.of ?_ ?_|refine aE ?_ fun hp=>?_|refine aC ?_ fun hp=>?_|refine And.intro ?_ ?_|clear hK K)
     all_goals try (first|omega|(unfold Big;omega)|(rw [u8m];omega)|(rw [u8M];omega)|(simp only [dA,dB,dC];omega))
   · rw [cutStep,if_neg hc] at e1
     have hc':¬ ((s.getD i 0).toNat:Int)=c.toNat:=fun h=>hc (UInt8.toNat_inj.1 (by exact_mod_cast h))
     have h4:=cut_piece c (s.take i) ((cut c (s.take i)).length - 1)
     have e3:(((cut c (s.take i)).length:Int) - 1).toNat=(cut c (s.take i)).length - 1:=by omega
     have e4:=fun v=>rowSet_fU (l:=cut c (s.take i)) (i:=(cut c (s.take i)).length - 1) (v:=v) (by omega)
     repeat' (first|refine bL ?_|refine vS fun K hK=>?_|refine hK _ ?_;clear hK K|refine hX ?_;clear hX hY X Y|refine hY ?_;clear hX hY X Y|refine vB ?_|((first|refine vR tok (by rw [hnt];rfl) ?_|refine vC fun X Y hX hY=>?_|refine vK ?_|(refine AWp.draw (id:=7) tok mixed (.tak 0 (.tak 1 (.tak 2 (.tak 3 (.tak 4 (.tak 5 (.tak 6 (.tak 7 (.tak 8 (.tak 10 (.tak 11 (.all (.cons 9 (.all (.cons 12 (.all (.cons 13 (.all (.cons 14 (.tak 15 (.tak 16 (.all (.cons 17 .done .nil)))) .nil)) .nil)) .nil)) (.cons 12 (.all (.cons 9 (.all (.cons 13 (.all (.cons 14 (.tak 15 (.tak 16 (.all (.cons 17 .done .nil)))) .nil)) .nil)) (.cons 13 (.all (.cons 9 (.all (.cons 14 (.tak 15 (.tak 16 (.all (.cons 17 .done .nil)))) .nil)) (.cons 14 (.all (.cons 9 (.tak 15 (.tak 16 (.all (.cons 17 .done .nil)))) .nil)) .nil))) .nil))) .nil)))))))))))))) [] [0,5,6] (by kernel_rfl) (by kernel_rfl) (by rw [hnt];rfl) ?_)|refine vL hk0 [] ?_|(apply gC<;>intro hq<;>(try simp only [nT,nF,n1,n0] at hq)<;>(have hb:=hq)<;>(try simp only [dT,dF,eT,eF] at hb)<;>first|(exfalso;omega)|((try simp only [hq]);clear hq)))<;>(try simp only [go_sem,qa,qb,qc,qd,qe,qf,qg,qh,qi,qj,qk,ql,qm,qn,qo,qp,qq,qr,qs,reduceIte,reduceCtorEq,e1,hc,e3,e4,UInt8.ofNat_toNat,List.length_set]))|refine ⟨i+1,?_,?_,?_⟩|refine Fits.of ?_ ?_|refine aL ?_ fun hp=>?_|refine aE ?_ fun hp=>?_|refine aC ?_ fun hp=>?_|refine And.intro ?_ ?_|clear hK K)
     all_goals try (first|omega|(unfold Big;omega)|(rw [u8m];omega)|(rw [u8M];omega)|(simp only [dA,dB,dC];omega))
 · have e2:s.take i=s:=List.take_of_length_le (by omega)
   rw [e2]
   repeat' (first|refine vS fun K hK=>?_|refine hK _ ?_;clear hK K|refine hY ?_;clear hX hY X Y|((first|refine vR tok (by rw [hnt];rfl) ?_|refine vC fun X Y hX hY=>?_|refine vE ?_|refine vT ?_|refine vF [] ?_|(apply gC<;>intro hq<;>(try simp only [nT,nF,n1,n0] at hq)<;>(have hb:=hq)<;>(try simp only [dT,dF,eT,eF] at hb)<;>first|(exfalso;omega)|((try simp only [hq]);clear hq)))<;>(try simp only [go_sem,qa,qb,qc,qd,qe,qf,qg,qh,qi,qj,qk,ql,qm,qn,qo,qp,qq,qr,qs,reduceIte,reduceCtorEq]))|clear hK K)
   all_goals first|(first|omega|(unfold Big;omega)|(rw [u8m];omega)|(rw [u8M];omega)|(simp only [dA,dB,dC];omega))
theorem packet_nums (p:Packet) (h:p.ok=true):(0≤p.seq∧p.seq < 100)∧(0≤p.kind∧p.kind < 100)∧(0≤p.src∧p.src < 100)∧(0≤p.dst∧p.dst < 100)∧(0≤p.sum∧p.sum < 100)∧(0≤p.till∧p.till < 100)∧0≤p.ver∧p.ver < 100:=by
 simp only [Packet.ok,In,Bool.and_eq_true,decide_eq_true_eq] at h
 omega
theorem PacketText_ok (p:Packet):Call Tryz.prog 77 [p.av] [] 0 (.o (U p.textV)) [] 0:=by
 unfold Packet.textV
 by_cases hok:p.ok=true
 · rw [if_pos hok]
   obtain ⟨n1,n2,n3,n4,n5,n6,n7⟩:=packet_nums p hok
   have d1:=decB_len p.seq
   have d2:=decB_len p.kind
   have d3:=decB_len p.src
   have d4:=decB_len p.dst
   have d5:=decB_len p.sum
   have d6:=decB_len p.till
   have d7:=decB_len p.ver
   refine vO tok Tryz.func77 rfl rfl Tryz.ntmps77 Tryz.results77 rfl (by decide) (fun cx hnt hk0=>?_)

   repeat' (first|refine bL ?_|refine vS fun K hK=>?_|refine hK _ ?_;clear hK K|refine hY ?_;clear hX hY X Y|((first|refine vR tok (by rw [hnt];rfl) ?_|refine vC fun X Y hX hY=>?_|refine vK ?_|refine vT ?_|refine vF [] ?_|refine runS_c [] (PacketOk_ok p) rfl ?_ ?_ ?_|(refine AWp.draw (id:=3) tok mixed (.tak 0 (.tak 1 (.tak 4 (.tak 5 (.tak 9 (.tak 10 (.tak 14 (.tak 15 (.tak 19 (.tak 20 (.tak 24 (.tak 25 (.tak 29 (.tak 30 (.all (.cons 2 (.tak 3 (.all (.cons 6 (.tak 7 (.tak 8 (.all (.cons 11 (.tak 12 (.tak 13 (.all (.cons 16 (.tak 17 (.tak 18 (.all (.cons 21 (.tak 22 (.tak 23 (.all (.cons 26 (.tak 27 (.tak 28 (.all (.cons 31 (.tak 32 (.tak 33 .done)) .nil)))) .nil)))) .nil)))) .nil)))) .nil)))) .nil))) .nil)))))))))))))))) [0] [1] (by kernel_rfl) (by kernel_rfl) (by rw [hnt];rfl) ?_)|refine effS_c [] (l6Dec_ok _ n1.1 n1.2) rfl ?_ ?_ ?_|refine effS_c [] (l6Dec_ok _ n2.1 n2.2) rfl ?_ ?_ ?_|refine effS_c [] (l6Dec_ok _ n3.1 n3.2) rfl ?_ ?_ ?_|refine effS_c [] (l6Dec_ok _ n4.1 n4.2) rfl ?_ ?_ ?_|refine effS_c [] (l6Dec_ok _ n5.1 n5.2) rfl ?_ ?_ ?_|refine effS_c [] (l6Dec_ok _ n6.1 n6.2) rfl ?_ ?_ ?_|(refine effS_c [] (l6Dec_ok _ n7.1 n7.2) rfl ?_ ?_ ?_))<;>(try simp only [go_sem,qa,qb,qc,qd,qe,qf,qg,qh,qi,qj,qk,ql,qm,qn,qo,qp,qq,qr,qs,reduceIte,reduceCtorEq,hok,Packet.text]))|refine aE ?_ fun hp=>?_|clear hK K)
   all_goals first|(first|omega|(unfold Big;omega)|(rw [u8m];omega)|(rw [u8M];omega)|(simp only [dA,dB,dC];omega))
 · rw [if_neg hok]
   refine vO tok Tryz.func77 rfl rfl Tryz.ntmps77 Tryz.results77 rfl (by decide) (fun cx hnt hk0=>?_)
   repeat' (first|refine vS fun K hK=>?_|refine hK _ ?_;clear hK K|refine hX ?_;clear hX hY X Y|((first|refine vR tok (by rw [hnt];rfl) ?_|refine vC fun X Y hX hY=>?_|refine vT ?_|refine vF [] ?_|(refine runS_c [] (PacketOk_ok p) rfl ?_ ?_ ?_))<;>(try simp only [go_sem,qa,qb,qc,qd,qe,qf,qg,qh,qi,qj,qk,ql,qm,qn,qo,qp,qq,qr,qs,reduceIte,reduceCtorEq,hok])))
end Go.Hw
namespace Go.Hw
open Go.Proofs
def pl_PacketRead_ok0:Plan:=(.tak 0 (.tak 1 (.tak 2 (.tak 4 (.tak 5 (.tak 6 (.tak 8 (.tak 9 (.tak 10 (.tak 12 (.tak 13 (.tak 14 (.tak 16 (.tak 17 (.tak 18 (.tak 20 (.tak 21 (.tak 22 (.tak 24 (.tak 25 (.tak 26 (.all (.cons 3 (.all (.cons 7 (.all (.cons 11 (.all (.cons 15 (.all (.cons 19 (.all (.cons 23 (.all (.cons 27 (.all (.cons 28 (.all (.cons 29 (.all (.cons 30 .done .nil)) .nil)) (.cons 29 (.all (.cons 28 (.all (.cons 30 .done .nil)) .nil)) .nil))) (.cons 29 (.all (.cons 27 (.all (.cons 28 (.all (.cons 30 .done .nil)) .nil)) .nil)) .nil))) (.cons 29 (.all (.cons 23 (.all (.cons 27 (.all (.cons 28 (.all (.cons 30 .done .nil)) .nil)) .nil)) .nil)) .nil))) (.cons 29 (.all (.cons 19 (.all (.cons 23 (.all (.cons 27 (.all (.cons 28 (.all (.cons 30 .done .nil)) .nil)) .nil)) .nil)) .nil)) .nil))) (.cons 29 (.all (.cons 15 (.all (.cons 19 (.all (.cons 23 (.all (.cons 27 (.all (.cons 28 (.all (.cons 30 .done .nil)) .nil)) .nil)) .nil)) .nil)) .nil)) .nil))) (.cons 29 (.all (.cons 11 (.all (.cons 15 (.all (.cons 19 (.all (.cons 23 (.all (.cons 27 (.all (.cons 28 (.all (.cons 30 .done .nil)) .nil)) .nil)) .nil)) .nil)) .nil)) .nil)) .nil))) (.cons 29 (.all (.cons 7 (.all (.cons 11 (.all (.cons 15 (.all (.cons 19 (.all (.cons 23 (.all (.cons 27 (.all (.cons 28 (.all (.cons 30 .done .nil)) .nil)) .nil)) .nil)) .nil)) .nil)) .nil)) .nil)) .nil))) (.cons 29 (.all (.cons 3 (.all (.cons 7 (.all (.cons 11 (.all (.cons 15 (.all (.cons 19 (.all (.cons 23 (.all (.cons 27 (.all (.cons 28 (.all (.cons 30 .done .nil)) .nil)) .nil)) .nil)) .nil)) .nil)) .nil)) .nil)) .nil)) .nil))))))))))))))))))))))))
attribute [go_sem] pl_PacketRead_ok0
attribute [local irreducible] Fits
theorem PacketRead_ok (s:Str) (hs:s.length≤900000):Call Tryz.prog 49 [U s] [] 0 (.tup [(readP s).av,BB (readB s)]) [] 0:=by
 have hsp:(32:Int)=((32:UInt8).toNat:Int):=rfl
 have cC:=l2Cut_ok s 32 hs
 rw [← hsp] at cC
 have hp:∀ i,((cut 32 s).getD i []).length≤1000000:=fun i=>Nat.le_trans (cut_piece 32 s i) (by omega)
 have hl:=cut_len 32 s
 by_cases h1:s.length≤24
 · by_cases h2:(cut 32 s).length=7
   · have c0:=l2Dec_ok _ (hp 0)
     have c1:=l2Dec_ok _ (hp 1)
     have c2:=l2Dec_ok _ (hp 2)
     have c3:=l2Dec_ok _ (hp 3)
     have c4:=l2Dec_ok _ (hp 4)
     have c5:=l2Dec_ok _ (hp 5)
     have c6:=l2Dec_ok _ (hp 6)
     have cT:=PacketText_ok (Packet.ofWords (cut 32 s))
     by_cases h3:(Packet.ofWords (cut 32 s)).textV=s
     · by_cases h4:s=[]
       · subst h4;simp [cut] at h2
       · have e1:readB s=true:=by simp [readB,h1,h2,h3,h4]
         have e2:readP s=Packet.ofWords (cut 32 s):=by simp [readP,e1]
         rw [e1,e2]
         refine vO tok Tryz.func49 rfl rfl Tryz.ntmps49 Tryz.results49 rfl (by decide) (fun cx hnt hk0=>?_)

         repeat' (first|refine vS fun K hK=>?_|refine hK _ ?_;clear hK K|refine hY ?_;clear hX hY X Y|((first|refine vR tok (by rw [hnt];rfl) ?_|refine vC fun X Y hX hY=>?_|refine vK ?_|refine vT ?_|refine vF [] ?_|refine runS_c [] (cC) rfl ?_ ?_ ?_|refine runS_c [] (cT) rfl ?_ ?_ ?_|(refine AWp.draw (id:=6) tok mixed pl_PacketRead_ok0 [1] [4] (by kernel_rfl) (by kernel_rfl) (by rw [hnt];rfl) ?_)|refine effS_c [] (c0) rfl ?_ ?_ ?_|refine effS_c [] (c1) rfl ?_ ?_ ?_|refine effS_c [] (c2) rfl ?_ ?_ ?_|refine effS_c [] (c3) rfl ?_ ?_ ?_|refine effS_c [] (c4) rfl ?_ ?_ ?_|refine effS_c [] (c5) rfl ?_ ?_ ?_|refine effS_c [] (c6) rfl ?_ ?_ ?_|(apply gC<;>intro hq<;>(try simp only [nT,nF,n1,n0] at hq)<;>(have hb:=hq)<;>(try simp only [dT,dF,eT,eF] at hb)<;>first|(exfalso;omega)|((try simp only [hq]);clear hq)))<;>(try simp only [go_sem,qa,qb,qc,qd,qe,qf,qg,qh,qi,qj,qk,ql,qm,qn,qo,qp,qq,qr,qs,reduceIte,reduceCtorEq,h3,h4]))|refine aL ?_ fun hp=>?_|refine And.intro ?_ ?_|clear hK K)
         all_goals first|rfl|(first|omega|(unfold Big;omega)|(rw [u8m];omega)|(rw [u8M];omega)|(simp only [dA,dB,dC];omega))
     · have e1:readB s=false:=by simp [readB,h3]
       have e2:readP s=Packet.none:=by simp [readP,e1]
       rw [e1,e2]
       refine vO tok Tryz.func49 rfl rfl Tryz.ntmps49 Tryz.results49 rfl (by decide) (fun cx hnt hk0=>?_)

       repeat' (first|refine vS fun K hK=>?_|refine hK _ ?_;clear hK K|refine hX ?_;clear hX hY X Y|refine hY ?_;clear hX hY X Y|((first|refine vR tok (by rw [hnt];rfl) ?_|refine vC fun X Y hX hY=>?_|refine vK ?_|refine vT ?_|refine vF [] ?_|refine runS_c [] (cC) rfl ?_ ?_ ?_|refine runS_c [] (cT) rfl ?_ ?_ ?_|(refine AWp.draw (id:=6) tok mixed pl_PacketRead_ok0 [1] [4] (by kernel_rfl) (by kernel_rfl) (by rw [hnt];rfl) ?_)|refine effS_c [] (c0) rfl ?_ ?_ ?_|refine effS_c [] (c1) rfl ?_ ?_ ?_|refine effS_c [] (c2) rfl ?_ ?_ ?_|refine effS_c [] (c3) rfl ?_ ?_ ?_|refine effS_c [] (c4) rfl ?_ ?_ ?_|refine effS_c [] (c5) rfl ?_ ?_ ?_|refine effS_c [] (c6) rfl ?_ ?_ ?_|(apply gC<;>intro hq<;>(try simp only [nT,nF,n1,n0] at hq)<;>(have hb:=hq)<;>(try simp only [dT,dF,eT,eF] at hb)<;>first|(exfalso;omega)|((try simp only [hq]);clear hq)))<;>(try simp only [go_sem,qa,qb,qc,qd,qe,qf,qg,qh,qi,qj,qk,ql,qm,qn,qo,qp,qq,qr,qs,reduceIte,reduceCtorEq,h3,Packet.none]))|refine aL ?_ fun hp=>?_|refine And.intro ?_ ?_|clear hK K)
       all_goals first|rfl|(first|omega|(unfold Big;omega)|(rw [u8m];omega)|(rw [u8M];omega)|(simp only [dA,dB,dC];omega))
   · have e1:readB s=false:=by simp [readB,h2]
     have e2:readP s=Packet.none:=by simp [readP,e1]
     rw [e1,e2]
     refine vO tok Tryz.func49 rfl rfl Tryz.ntmps49 Tryz.results49 rfl (by decide) (fun cx hnt hk0=>?_)
     repeat' (first|refine vS fun K hK=>?_|refine hK _ ?_;clear hK K|refine hX ?_;clear hX hY X Y|refine hY ?_;clear hX hY X Y|((first|refine vR tok (by rw [hnt];rfl) ?_|refine vC fun X Y hX hY=>?_|refine vK ?_|refine vT ?_|refine vF [] ?_|refine runS_c [] (cC) rfl ?_ ?_ ?_|(apply gC<;>intro hq<;>(try simp only [nT,nF,n1,n0] at hq)<;>(have hb:=hq)<;>(try simp only [dT,dF,eT,eF] at hb)<;>first|(exfalso;omega)|((try simp only [hq]);clear hq)))<;>(try simp only [go_sem,qa,qb,qc,qd,qe,qf,qg,qh,qi,qj,qk,ql,qm,qn,qo,qp,qq,qr,qs,reduceIte,reduceCtorEq,Packet.none])))
     all_goals first|rfl|(first|omega|(unfold Big;omega)|(rw [u8m];omega)|(rw [u8M];omega)|(simp only [dA,dB,dC];omega))
 · have e1:readB s=false:=by simp [readB,h1]
   have e2:readP s=Packet.none:=by simp [readP,e1]
   rw [e1,e2]
   refine vO tok Tryz.func49 rfl rfl Tryz.ntmps49 Tryz.results49 rfl (by decide) (fun cx hnt hk0=>?_)
   repeat' (first|refine vS fun K hK=>?_|refine hK _ ?_;clear hK K|refine hX ?_;clear hX hY X Y|((first|refine vR tok (by rw [hnt];rfl) ?_|refine vC fun X Y hX hY=>?_|refine vT ?_|refine vF [] ?_|(apply gC<;>intro hq<;>(try simp only [nT,nF,n1,n0] at hq)<;>(have hb:=hq)<;>(try simp only [dT,dF,eT,eF] at hb)<;>first|(exfalso;omega)|((try simp only [hq]);clear hq)))<;>(try simp only [go_sem,qa,qb,qc,qd,qe,qf,qg,qh,qi,qj,qk,ql,qm,qn,qo,qp,qq,qr,qs,reduceIte,reduceCtorEq,Packet.none])))
   all_goals first|rfl|(first|omega|(unfold Big;omega)|(rw [u8m];omega)|(rw [u8M];omega)|(simp only [dA,dB,dC];omega))
end Go.Hw
namespace Go.Hw
open Go.Proofs
attribute [local irreducible] Fits
theorem rowOf_U5 (a b c d e:Str):rowOf 1 [cu a,cu b,cu c,cu d,cu e]=fU [a,b,c,d,e]:=by
 funext i j;unfold rowOf fU
 rcases j with _|j
 · rcases i with _|_|_|_|_|i<;>simp [dfl,List.getD,nix]<;>omega
 · simp
theorem way_name (way:Int) (h:0≤way∧way≤4):([[110,111,110,101],[105,110,105,116],[116,114,121],[111,112,101,110],[102,108,117,115,104]]:List Str).getD way.toNat []=wayT way:=by
 have:way=0 ∨ way=1 ∨ way=2 ∨ way=3 ∨ way=4:=by omega
 rcases this with rfl|rfl|rfl|rfl|rfl<;>rfl
theorem wayT_len (way:Int):(wayT way).length≤5:=by unfold wayT;split<;>(try split)<;>(try split)<;>(try split)<;>simp
theorem setsT_len (s:State) (n:Nat):(setsT s n).length≤5 * n:=by
 induction n with
 | zero=>simp [setsT]
 | succ n ih =>
   have:∀ a b,(setT a b).length=4:=by intro a b;cases a<;>cases b<;>rfl
   simp only [setsT,List.length_append,List.length_cons,this];omega
theorem l31Chain_ok (c:Chain) (hok:c.ok=true):Call Tryz.prog 54 [c.av] [] 0 (.o (U c.text)) [] 0:=by
 obtain ⟨hid,hbk,hst,hpl,_,_⟩:=chain_ok hok
 obtain ⟨b1,b2,b3,b4,b5⟩:=bank_ok hbk
 obtain ⟨hw,hv,s1,s2,s3,s4,_⟩:=state_ok hst
 have i1:=parts_all b1
 have g1:=parts_get b1
 have g2:=parts_get b2
 have p1:=parts_len b1
 have p2:=parts_len b2
 have c1:=l6Dec_ok c.id (by omega) (by omega)
 have c2:=l6Dec_ok c.state.ver (by omega) (by omega)
 have c3:=l6Dec_ok c.past.length (by omega) (by omega)
 have c4:=l31List_ok c.bank.own (by omega) (fun i=>by have:=g1 i;omega)
 have c5:=l6Dec_ok c.bank.locked (by omega) (by omega)
 have c6:=l31List_ok c.bank.notes (by omega) (fun i=>by have:=g2 i;omega)
 have w1:=way_name c.state.way hw
 have d1:=decB_len c.id
 have d2:=decB_len c.state.ver
 have d3:=decB_len c.past.length
 have d4:=listT_len c.bank.own
 have d5:=decB_len c.bank.locked
 have d6:=listT_len c.bank.notes
 have d7:=wayT_len c.state.way
 refine vO tok Tryz.func54 rfl rfl Tryz.ntmps54 Tryz.results54 rfl (by decide) (fun cx hnt hk0=>?_)

 repeat' (first|refine vS fun K hK=>?_|refine hK _ ?_;clear hK K|((refine vR tok (by rw [hnt];rfl) ?_)<;>(try simp only [go_sem,qa,qb,qc,qd,qe,qf,qg,qh,qi,qj,qk,ql,qm,qn,qo,qp,qq,qr,qs,reduceIte,reduceCtorEq])))
 refine AWp.pureK (id:=2) tok mixed [(9,.o (.c (.ptr 0 0 0 0))),(10,.o (I (c.id))),(11,.o (U (decB c.id))),(12,.o (U (decB c.id++[32]))),(13,.o (.c (.sl 2 1 0 5))),(14,.o (.c (.ptr 1 0 0 0))),(15,.o (I (c.state.way))),(16,.o (.c (.ptr 2 1 c.state.way.toNat 0))),(17,.o (U (wayT c.state.way))),(18,.o (U (decB c.id++[32]++wayT c.state.way))),(19,.o (U (decB c.id++[32]++wayT c.state.way++[32]))),(20,.o (.c (.ptr 1 0 0 1))),(21,.o (I (c.state.ver))),(22,.o (U (decB c.state.ver))),(23,.o (U (decB c.id++[32]++wayT c.state.way++[32]++decB c.state.ver))),(24,.o (U (decB c.id++[32]++wayT c.state.way++[32]++decB c.state.ver++[32]))),(25,.o (.c (.ptr 0 0 0 11))),(26,.o (.c (.t (c.tv 11)))),(27,.o (I ((c.past.length:Nat)))),(28,.o (U (decB ((c.past.length:Nat))))),(29,.o (U (decB c.id++[32]++wayT c.state.way++[32]++decB c.state.ver++[32]++decB ((c.past.length:Nat))))),(30,.o (U (decB c.id++[32]++wayT c.state.way++[32]++decB c.state.ver++[32]++decB ((c.past.length:Nat))++[32,111,119,110]))),(31,.o (.c (.ptr 0 0 0 1))),(32,.o (.c (.ptr 0 0 0 1))),(33,.o (.c (.t (c.tv 1)))),(34,.o (U (listT c.bank.own))),(35,.o (U (decB c.id++[32]++wayT c.state.way++[32]++decB c.state.ver++[32]++decB ((c.past.length:Nat))++[32,111,119,110]++listT c.bank.own))),(36,.o (U (decB c.id++[32]++wayT c.state.way++[32]++decB c.state.ver++[32]++decB ((c.past.length:Nat))++[32,111,119,110]++listT c.bank.own++[32,108,111,99,107,101,100,32]))),(37,.o (.c (.ptr 0 0 0 1))),(38,.o (.c (.ptr 0 0 0 3))),(39,.o (I (c.bank.locked))),(40,.o (U (decB c.bank.locked))),(41,.o (U (decB c.id++[32]++wayT c.state.way++[32]++decB c.state.ver++[32]++decB ((c.past.length:Nat))++[32,111,119,110]++listT c.bank.own++[32,108,111,99,107,101,100,32]++decB c.bank.locked))),(42,.o (U (decB c.id++[32]++wayT c.state.way++[32]++decB c.state.ver++[32]++decB ((c.past.length:Nat))++[32,111,119,110]++listT c.bank.own++[32,108,111,99,107,101,100,32]++decB c.bank.locked++[32,110,111,116,101,115]))),(43,.o (.c (.ptr 0 0 0 1))),(44,.o (.c (.ptr 0 0 0 2))),(45,.o (.c (.t (c.tv 2)))),(46,.o (U (listT c.bank.notes))),(47,.o (U (decB c.id++[32]++wayT c.state.way++[32]++decB c.state.ver++[32]++decB ((c.past.length:Nat))++[32,111,119,110]++listT c.bank.own++[32,108,111,99,107,101,100,32]++decB c.bank.locked++[32,110,111,116,101,115]++listT c.bank.notes))),(4,.o (U (decB c.id++[32]++wayT c.state.way++[32]++decB c.state.ver++[32]++decB ((c.past.length:Nat))++[32,111,119,110]++listT c.bank.own++[32,108,111,99,107,101,100,32]++decB c.bank.locked++[32,110,111,116,101,115]++listT c.bank.notes)))] [1,3] [([(1,c.state.box),(0,c.box)],2),((2,rU [[110,111,110,101],[105,110,105,116],[116,114,121],[111,112,101,110],[102,108,117,115,104]]) ::[(1,c.state.box),(0,c.box)],3)] [0,1,1,1] [4,7,8] [[1],[9],[10],[11],[],[3],[14],[13,15],[16],[12,17],[18],[3],[20],[21],[19,22],[23],[1],[25],[26],[27],[24,28],[29],[1],[31],[32],[33],[30,34],[35],[1],[37],[38],[39],[36,40],[41],[1],[43],[44],[45],[42,46],[47]] ((2,rU [[110,111,110,101],[105,110,105,116],[116,114,121],[111,112,101,110],[102,108,117,115,104]]) ::[(1,c.state.box),(0,c.box)]) 3 (by kernel_rfl) (by rw [hnt];rfl) rfl rfl rfl (by kernel_rfl) ?_ ?_
 · simp only [pureL,pureE,pureM,pureT,List.map_cons,List.map_nil,List.getD_cons_zero,List.getD_cons_succ,cond_true,cond_false,Nat.beq]
   repeat' apply And.intro
   all_goals first
     | trivial
     | (intro T hT
        simp only [go_sem,agree,goalS,List.cons_append,List.nil_append,qa,qb,qc,qd,qe,qf,qg,qh,qi,qj,qk,ql,qm,qn,qo,qp,qq,qr,qs,reduceIte,reduceCtorEq] at hT
        simp only [go_sem,qa,qb,qc,qd,qe,qf,qg,qh,qi,qj,qk,ql,qm,qn,qo,qp,qq,qr,qs,reduceIte,reduceCtorEq,hT,goalS,rowOf_U5,w1,List.cons_append,List.nil_append]
        repeat' (first|refine bL ?_|((first|refine runS_c [] (c1) rfl ?_ ?_ ?_|refine runS_c [] (c2) rfl ?_ ?_ ?_|refine runS_c [] (c3) rfl ?_ ?_ ?_|refine runS_c [] (c4) rfl ?_ ?_ ?_|refine runS_c [] (c5) rfl ?_ ?_ ?_|(refine runS_c [] (c6) rfl ?_ ?_ ?_))<;>(try simp only [go_sem,qa,qb,qc,qd,qe,qf,qg,qh,qi,qj,qk,ql,qm,qn,qo,qp,qq,qr,qs,reduceIte,reduceCtorEq,hT,goalS,rowOf_U5,w1,List.cons_append,List.nil_append]))|refine aE ?_ fun hp=>?_|(clear hK K)))
   all_goals first|(first|omega|(unfold Big;omega)|(rw [u8m];omega)|(rw [u8M];omega)|(simp only [dA,dB,dC];omega))|rfl
 repeat' (first|refine vS fun K hK=>?_|refine hK _ ?_;clear hK K|refine vB ?_|((refine vR tok (by rw [hnt];rfl) ?_)<;>(try simp only [go_sem,qa,qb,qc,qd,qe,qf,qg,qh,qi,qj,qk,ql,qm,qn,qo,qp,qq,qr,qs,reduceIte,reduceCtorEq,List.cons_append,List.nil_append])))
 all_goals try (first|omega|(unfold Big;omega)|(rw [u8m];omega)|(rw [u8M];omega)|(simp only [dA,dB,dC];omega))
 have hh:c.head.length≤100:=by
   unfold Chain.head
   simp only [List.length_append,List.length_cons,List.length_nil]
   omega
 refine AWp.loop (fun i:Nat=>⟨[(1,.o (.c (.ptr 0 0 0 0))),(3,.o (.c (.ptr 1 0 0 0))),(4,.o (U (c.head++setsT c.state i))),(5,.o (I i))],[(0,c.box),(1,c.state.box)],2⟩) (fun i=>i≤c.state.sent.length) (fun i=>c.state.sent.length - i) 0 (Nat.zero_le _) ?_ ?_
 · refine vL hk0 [] ?_;simp only [go_sem,qa,qb,qc,qd,qe,qf,qg,qh,qi,qj,qk,ql,qm,qn,qo,qp,qq,qr,qs,reduceIte,reduceCtorEq,setsT,List.append_nil,Chain.head]
   all_goals first|rfl|omega|simp
 intro i hi
 have hsl:=setsT_len c.state i
 by_cases hlt:i < c.state.sent.length
 · have e0:∀ a b,c.state.live.getD i false=a→c.state.back.getD i false=b→c.head++setsT c.state (i+1)=c.head++setsT c.state i++[32]++setT a b:=by
     intro a b ha hb'
     show c.head++(setsT c.state i++(32 ::setT (c.state.live.getD i false) (c.state.back.getD i false)))=_
     rw [ha,hb'];simp
   cases hlv:c.state.live.getD i false
   all_goals
     cases hbk':c.state.back.getD i false
     all_goals
       have e1:=e0 _ _ hlv hbk'
       repeat' (first|refine bL ?_|refine vS fun K hK=>?_|refine hK _ ?_;clear hK K|refine hX ?_;clear hX hY X Y|refine hY ?_;clear hX hY X Y|refine vB ?_|((first|refine vR tok (by rw [hnt];rfl) ?_|refine vC fun X Y hX hY=>?_|refine vK ?_|refine vL hk0 [] ?_|(apply gC<;>intro hq<;>(try simp only [nT,nF,n1,n0] at hq)<;>(have hb:=hq)<;>(try simp only [dT,dF,eT,eF] at hb)<;>first|(exfalso;omega)|((try simp only [hq]);clear hq)))<;>(try simp only [go_sem,qa,qb,qc,qd,qe,qf,qg,qh,qi,qj,qk,ql,qm,qn,qo,qp,qq,qr,qs,reduceIte,reduceCtorEq,e1,hlv,hbk',setT,Bool.false_eq_true,if_true,if_false]))|refine ⟨i+1,?_,?_,?_⟩|refine Fits.of ?_ ?_|refine aE ?_ fun hp=>?_|refine aC ?_ fun hp=>?_|refine And.intro ?_ ?_|clear hK K)
       all_goals try (first|omega|(unfold Big;omega)|(rw [u8m];omega)|(rw [u8M];omega)|(simp only [dA,dB,dC];omega))
 · have e2:i=c.state.sent.length:=by omega
   subst e2
   repeat' (first|refine bL ?_|refine vS fun K hK=>?_|refine hK _ ?_;clear hK K|refine hY ?_;clear hX hY X Y|((first|refine vR tok (by rw [hnt];rfl) ?_|refine vC fun X Y hX hY=>?_|refine vE ?_|refine vT ?_|refine vF [] ?_|(apply gC<;>intro hq<;>(try simp only [nT,nF,n1,n0] at hq)<;>(have hb:=hq)<;>(try simp only [dT,dF,eT,eF] at hb)<;>first|(exfalso;omega)|((try simp only [hq]);clear hq)))<;>(try simp only [go_sem,qa,qb,qc,qd,qe,qf,qg,qh,qi,qj,qk,ql,qm,qn,qo,qp,qq,qr,qs,reduceIte,reduceCtorEq,Chain.text]))|refine aE ?_ fun hp=>?_|clear hK K)
   all_goals first|(first|omega|(unfold Big;omega)|(rw [u8m];omega)|(rw [u8M];omega)|(simp only [dA,dB,dC];omega))|rfl
theorem text_len (c:Chain) (hok:c.ok=true):c.text.length≤200:=by
 obtain ⟨hid,hbk,hst,hpl,_,_⟩:=chain_ok hok
 obtain ⟨b1,b2,b3,b4,b5⟩:=bank_ok hbk
 obtain ⟨hw,hv,s1,_⟩:=state_ok hst
 have p1:=parts_len b1
 have p2:=parts_len b2
 have d1:=decB_len c.id
 have d2:=decB_len c.state.ver
 have d3:=decB_len c.past.length
 have d4:=listT_len c.bank.own
 have d5:=decB_len c.bank.locked
 have d6:=listT_len c.bank.notes
 have d7:=wayT_len c.state.way
 have d8:=setsT_len c.state c.state.sent.length
 unfold Chain.text Chain.head
 simp only [List.length_append,List.length_cons,List.length_nil]
 omega
theorem l31All_ok (a b:Chain) (ha:a.ok=true) (hbo:b.ok=true):Call Tryz.prog 28 [.g [.t (chainsT (Two.list ⟨a,b⟩))]] [] 0 (.o (U (Two.text ⟨a,b⟩))) [] 0:=by
 have c1:=l31Chain_ok a ha
 have c2:=l31Chain_ok b hbo
 have t1:=text_len a ha
 have t2:=text_len b hbo
 refine vO tok Tryz.func28 rfl rfl Tryz.ntmps28 Tryz.results28 rfl (by decide) (fun cx hnt hk0=>?_)

 repeat' (first|refine bL ?_|refine vS fun K hK=>?_|refine hK _ ?_;clear hK K|((first|refine vR tok (by rw [hnt];rfl) ?_|refine vT ?_|refine vF [] ?_|(refine AWp.draw (id:=1) tok mixed (.tak 0 (.tak 1 (.tak 2 (.tak 3 (.tak 5 (.tak 6 (.tak 7 (.tak 8 (.all (.cons 4 (.all (.cons 9 (.tak 10 (.tak 11 .done)) .nil)) .nil)))))))))) [0] [1] (by kernel_rfl) (by kernel_rfl) (by rw [hnt];rfl) ?_)|refine effS_c [] (c1) rfl ?_ ?_ ?_|(refine effS_c [] (c2) rfl ?_ ?_ ?_))<;>(try simp only [go_sem,qa,qb,qc,qd,qe,qf,qg,qh,qi,qj,qk,ql,qm,qn,qo,qp,qq,qr,qs,reduceIte,reduceCtorEq,Two.list,List.getD_cons_succ,List.getD_cons_zero,Two.text]))|refine aL ?_ fun hp=>?_|refine aE ?_ fun hp=>?_|clear hK K)
 all_goals first|(first|omega|(unfold Big;omega)|(rw [u8m];omega)|(rw [u8M];omega)|(simp only [dA,dB,dC];omega))|rfl
theorem num_own (w:List Str) (k:Nat) (hk:k≤100) (hl:w.length≤1000000) (hw:∀ i,(w.getD i []).length≤1000000):Call Tryz.prog 48 [.c (.sl 0 1 0 w.length),I k] [(0,rU w)] 1 (.o (I (numAt w k))) [(0,rU w)] 1 :=
 Call.own (rest:=[.int .i64 k]) (by simp [plain]) (l31Num_ok w k hk hl hw)
theorem cut_own (line:Str) (hl:line.length≤700):Call Tryz.prog 26 [U line,.c (.t (.v (.int .u8 32)))] [] 0 (.o (.c (.sl 0 1 0 (cut 32 line).length))) [(0,rU (cut 32 line))] 1:=l2Cut_ok line 32 (by omega)
theorem words_le (line:Str) (hl:line.length≤700):(cut 32 line).length≤1000000∧∀ i,((cut 32 line).getD i []).length≤1000000 :=
 ⟨by have:=cut_len 32 line;omega,fun i=>Nat.le_trans (cut_piece 32 line i) (by omega)⟩
theorem l31Line_Block (a b:Chain) (hok:wOk [a,b]=true) (line:Str) (hl:line.length≤700) (h0:(cut 32 line).getD 0 []=[98,108,111,99,107]) :
   Call Tryz.prog 27 [.g (worldA 0),U line] (worldH ⟨a,b⟩ 0) 17 (.tup [.g (worldA 17),U (lineOut ⟨a,b⟩ line)]) (worldH (lineDo ⟨a,b⟩ line) 17) 34:=by
 have hab:=wOk_iff.1 hok
 obtain ⟨hwl,hp⟩:=words_le line hl
 have hw0:=cut_len 32 line
 have c0:=cut_own line hl
 have c1:Call Tryz.prog 48 [.c (.sl 0 1 0 (cut 32 line).length),I 1] [(0,rU (cut 32 line))] 1 (.o (I (numAt (cut 32 line) 1))) [(0,rU (cut 32 line))] 1:=num_own _ 1 (by omega) hwl hp
 have c2:Call Tryz.prog 48 [.c (.sl 0 1 0 (cut 32 line).length),I 2] [(0,rU (cut 32 line))] 1 (.o (I (numAt (cut 32 line) 2))) [(0,rU (cut 32 line))] 1:=num_own _ 2 (by omega) hwl hp
 have c3:Call Tryz.prog 48 [.c (.sl 0 1 0 (cut 32 line).length),I 3] [(0,rU (cut 32 line))] 1 (.o (I (numAt (cut 32 line) 3))) [(0,rU (cut 32 line))] 1:=num_own _ 3 (by omega) hwl hp
 have e1:lineDo ⟨a,b⟩ line=(⟨a,b⟩:Two).on ⟨1,numAt (cut 32 line) 1,numAt (cut 32 line) 2,numAt (cut 32 line) 3,Packet.none⟩:=by
   simp [-List.getD_eq_getElem?_getD,lineDo,lineE,isEv,h0,wBlock,wKnow,wSend,wGet,wTell,wLate,wStep]
 have e2:lineOut ⟨a,b⟩ line=[]:=by simp [-List.getD_eq_getElem?_getD,lineOut,isEv,h0,wBlock,wKnow,wSend,wGet,wTell,wLate,wStep]
 have cD:=l21Do_ok ⟨a,b⟩ ⟨1,numAt (cut 32 line) 1,numAt (cut 32 line) 2,numAt (cut 32 line) 3,Packet.none⟩ hab.1 hab.2.1
 rw [e1,e2]
 refine vO tok Tryz.func27 rfl rfl Tryz.ntmps27 Tryz.results27 rfl (by decide) (fun cx hnt hk0=>?_)
 repeat' (first|refine vS fun K hK=>?_|refine hK _ ?_;clear hK K|refine hX ?_;clear hX hY X Y|refine vB ?_|((first|refine vR tok (by rw [hnt];rfl) ?_|refine vC fun X Y hX hY=>?_|refine vT ?_|refine vF [] ?_|refine runS_c [] (c0) rfl ?_ ?_ ?_|refine runS_c [_] (c1) rfl ?_ ?_ ?_|refine runS_c [_] (c2) rfl ?_ ?_ ?_|refine runS_c [_] (c3) rfl ?_ ?_ ?_|(refine runS_c [0,1,2,3,4,5,6,7,8,9,10,11,12,13,14,15,16] (cD) rfl ?_ ?_ ?_))<;>(try simp only [go_sem,qa,qb,qc,qd,qe,qf,qg,qh,qi,qj,qk,ql,qm,qn,qo,qp,qq,qr,qs,reduceIte,reduceCtorEq,h0,Packet.none]))|refine aL ?_ fun hp=>?_|clear hK K)
 all_goals first|(first|omega|(unfold Big;omega)|(rw [u8m];omega)|(rw [u8M];omega)|(simp only [dA,dB,dC];omega))
theorem l31Line_Know (a b:Chain) (hok:wOk [a,b]=true) (line:Str) (hl:line.length≤700) (h0:(cut 32 line).getD 0 []=[107,110,111,119]) :
   Call Tryz.prog 27 [.g (worldA 0),U line] (worldH ⟨a,b⟩ 0) 17 (.tup [.g (worldA 17),U (lineOut ⟨a,b⟩ line)]) (worldH (lineDo ⟨a,b⟩ line) 17) 34:=by
 have hab:=wOk_iff.1 hok
 obtain ⟨hwl,hp⟩:=words_le line hl
 have hw0:=cut_len 32 line
 have c0:=cut_own line hl
 have c1:Call Tryz.prog 48 [.c (.sl 0 1 0 (cut 32 line).length),I 1] [(0,rU (cut 32 line))] 1 (.o (I (numAt (cut 32 line) 1))) [(0,rU (cut 32 line))] 1:=num_own _ 1 (by omega) hwl hp
 have c2:Call Tryz.prog 48 [.c (.sl 0 1 0 (cut 32 line).length),I 2] [(0,rU (cut 32 line))] 1 (.o (I (numAt (cut 32 line) 2))) [(0,rU (cut 32 line))] 1:=num_own _ 2 (by omega) hwl hp
 have c3:Call Tryz.prog 48 [.c (.sl 0 1 0 (cut 32 line).length),I 3] [(0,rU (cut 32 line))] 1 (.o (I (numAt (cut 32 line) 3))) [(0,rU (cut 32 line))] 1:=num_own _ 3 (by omega) hwl hp
 have e1:lineDo ⟨a,b⟩ line=(⟨a,b⟩:Two).on ⟨2,numAt (cut 32 line) 1,numAt (cut 32 line) 2,numAt (cut 32 line) 3,Packet.none⟩:=by
   simp [-List.getD_eq_getElem?_getD,lineDo,lineE,isEv,h0,wBlock,wKnow,wSend,wGet,wTell,wLate,wStep]
 have e2:lineOut ⟨a,b⟩ line=[]:=by simp [-List.getD_eq_getElem?_getD,lineOut,isEv,h0,wBlock,wKnow,wSend,wGet,wTell,wLate,wStep]
 have cD:=l21Do_ok ⟨a,b⟩ ⟨2,numAt (cut 32 line) 1,numAt (cut 32 line) 2,numAt (cut 32 line) 3,Packet.none⟩ hab.1 hab.2.1
 rw [e1,e2]
 refine vO tok Tryz.func27 rfl rfl Tryz.ntmps27 Tryz.results27 rfl (by decide) (fun cx hnt hk0=>?_)
 repeat' (first|refine vS fun K hK=>?_|refine hK _ ?_;clear hK K|refine hX ?_;clear hX hY X Y|refine hY ?_;clear hX hY X Y|refine vB ?_|((first|refine vR tok (by rw [hnt];rfl) ?_|refine vC fun X Y hX hY=>?_|refine vT ?_|refine vF [] ?_|refine runS_c [] (c0) rfl ?_ ?_ ?_|refine runS_c [_] (c1) rfl ?_ ?_ ?_|refine runS_c [_] (c2) rfl ?_ ?_ ?_|refine runS_c [_] (c3) rfl ?_ ?_ ?_|(refine runS_c [0,1,2,3,4,5,6,7,8,9,10,11,12,13,14,15,16] (cD) rfl ?_ ?_ ?_))<;>(try simp only [go_sem,qa,qb,qc,qd,qe,qf,qg,qh,qi,qj,qk,ql,qm,qn,qo,qp,qq,qr,qs,reduceIte,reduceCtorEq,h0,Packet.none]))|refine aL ?_ fun hp=>?_|clear hK K)
 all_goals first|(first|omega|(unfold Big;omega)|(rw [u8m];omega)|(rw [u8M];omega)|(simp only [dA,dB,dC];omega))
theorem l31Line_Send (a b:Chain) (hok:wOk [a,b]=true) (line:Str) (hl:line.length≤700) (h0:(cut 32 line).getD 0 []=[115,101,110,100]) :
   Call Tryz.prog 27 [.g (worldA 0),U line] (worldH ⟨a,b⟩ 0) 17 (.tup [.g (worldA 17),U (lineOut ⟨a,b⟩ line)]) (worldH (lineDo ⟨a,b⟩ line) 17) 34:=by
 have hab:=wOk_iff.1 hok
 obtain ⟨hwl,hp⟩:=words_le line hl
 have hw0:=cut_len 32 line
 have c0:=cut_own line hl
 have c1:Call Tryz.prog 48 [.c (.sl 0 1 0 (cut 32 line).length),I 1] [(0,rU (cut 32 line))] 1 (.o (I (numAt (cut 32 line) 1))) [(0,rU (cut 32 line))] 1:=num_own _ 1 (by omega) hwl hp
 have c2:Call Tryz.prog 48 [.c (.sl 0 1 0 (cut 32 line).length),I 2] [(0,rU (cut 32 line))] 1 (.o (I (numAt (cut 32 line) 2))) [(0,rU (cut 32 line))] 1:=num_own _ 2 (by omega) hwl hp
 have c3:Call Tryz.prog 48 [.c (.sl 0 1 0 (cut 32 line).length),I 3] [(0,rU (cut 32 line))] 1 (.o (I (numAt (cut 32 line) 3))) [(0,rU (cut 32 line))] 1:=num_own _ 3 (by omega) hwl hp
 have c4:Call Tryz.prog 48 [.c (.sl 0 1 0 (cut 32 line).length),I 4] [(0,rU (cut 32 line))] 1 (.o (I (numAt (cut 32 line) 4))) [(0,rU (cut 32 line))] 1:=num_own _ 4 (by omega) hwl hp
 have c5:Call Tryz.prog 48 [.c (.sl 0 1 0 (cut 32 line).length),I 5] [(0,rU (cut 32 line))] 1 (.o (I (numAt (cut 32 line) 5))) [(0,rU (cut 32 line))] 1:=num_own _ 5 (by omega) hwl hp
 have c6:Call Tryz.prog 48 [.c (.sl 0 1 0 (cut 32 line).length),I 6] [(0,rU (cut 32 line))] 1 (.o (I (numAt (cut 32 line) 6))) [(0,rU (cut 32 line))] 1:=num_own _ 6 (by omega) hwl hp
 have e1:lineDo ⟨a,b⟩ line=(⟨a,b⟩:Two).on ⟨3,numAt (cut 32 line) 1,0,0,⟨0,numAt (cut 32 line) 2,numAt (cut 32 line) 3,numAt (cut 32 line) 4,numAt (cut 32 line) 5,numAt (cut 32 line) 6,0⟩⟩:=by
   simp [-List.getD_eq_getElem?_getD,lineDo,lineE,isEv,h0,wBlock,wKnow,wSend,wGet,wTell,wLate,wStep]
 have e2:lineOut ⟨a,b⟩ line=[]:=by simp [-List.getD_eq_getElem?_getD,lineOut,isEv,h0,wBlock,wKnow,wSend,wGet,wTell,wLate,wStep]
 have cD:=l21Do_ok ⟨a,b⟩ ⟨3,numAt (cut 32 line) 1,0,0,⟨0,numAt (cut 32 line) 2,numAt (cut 32 line) 3,numAt (cut 32 line) 4,numAt (cut 32 line) 5,numAt (cut 32 line) 6,0⟩⟩ hab.1 hab.2.1
 rw [e1,e2]
 refine vO tok Tryz.func27 rfl rfl Tryz.ntmps27 Tryz.results27 rfl (by decide) (fun cx hnt hk0=>?_)
 repeat' (first|refine vS fun K hK=>?_|refine hK _ ?_;clear hK K|refine hX ?_;clear hX hY X Y|refine hY ?_;clear hX hY X Y|refine vB ?_|((first|refine vR tok (by rw [hnt];rfl) ?_|refine vC fun X Y hX hY=>?_|refine vT ?_|refine vF [] ?_|refine runS_c [] (c0) rfl ?_ ?_ ?_|refine runS_c [_] (c1) rfl ?_ ?_ ?_|refine runS_c [_] (c2) rfl ?_ ?_ ?_|refine runS_c [_] (c3) rfl ?_ ?_ ?_|refine runS_c [_] (c4) rfl ?_ ?_ ?_|refine runS_c [_] (c5) rfl ?_ ?_ ?_|refine runS_c [_] (c6) rfl ?_ ?_ ?_|(refine runS_c [0,1,2,3,4,5,6,7,8,9,10,11,12,13,14,15,16] (cD) rfl ?_ ?_ ?_))<;>(try simp only [go_sem,qa,qb,qc,qd,qe,qf,qg,qh,qi,qj,qk,ql,qm,qn,qo,qp,qq,qr,qs,reduceIte,reduceCtorEq,h0,Packet.none]))|refine aL ?_ fun hp=>?_|clear hK K)
 all_goals first|(first|omega|(unfold Big;omega)|(rw [u8m];omega)|(rw [u8M];omega)|(simp only [dA,dB,dC];omega))
theorem l31Line_Get (a b:Chain) (hok:wOk [a,b]=true) (line:Str) (hl:line.length≤700) (h0:(cut 32 line).getD 0 []=[103,101,116]) :
   Call Tryz.prog 27 [.g (worldA 0),U line] (worldH ⟨a,b⟩ 0) 17 (.tup [.g (worldA 17),U (lineOut ⟨a,b⟩ line)]) (worldH (lineDo ⟨a,b⟩ line) 17) 34:=by
 have hab:=wOk_iff.1 hok
 obtain ⟨hwl,hp⟩:=words_le line hl
 have hw0:=cut_len 32 line
 have c0:=cut_own line hl
 have c1:Call Tryz.prog 48 [.c (.sl 0 1 0 (cut 32 line).length),I 1] [(0,rU (cut 32 line))] 1 (.o (I (numAt (cut 32 line) 1))) [(0,rU (cut 32 line))] 1:=num_own _ 1 (by omega) hwl hp
 have c2:Call Tryz.prog 48 [.c (.sl 0 1 0 (cut 32 line).length),I 2] [(0,rU (cut 32 line))] 1 (.o (I (numAt (cut 32 line) 2))) [(0,rU (cut 32 line))] 1:=num_own _ 2 (by omega) hwl hp
 have c3:Call Tryz.prog 48 [.c (.sl 0 1 0 (cut 32 line).length),I 3] [(0,rU (cut 32 line))] 1 (.o (I (numAt (cut 32 line) 3))) [(0,rU (cut 32 line))] 1:=num_own _ 3 (by omega) hwl hp
 have e1:lineDo ⟨a,b⟩ line=(⟨a,b⟩:Two).on ⟨4,numAt (cut 32 line) 1,numAt (cut 32 line) 2,numAt (cut 32 line) 3,readP (lineTail line)⟩:=by
   simp [-List.getD_eq_getElem?_getD,lineDo,lineE,isEv,h0,wBlock,wKnow,wSend,wGet,wTell,wLate,wStep]
 have e2:lineOut ⟨a,b⟩ line=[]:=by simp [-List.getD_eq_getElem?_getD,lineOut,isEv,h0,wBlock,wKnow,wSend,wGet,wTell,wLate,wStep]
 have cD:=l21Do_ok ⟨a,b⟩ ⟨4,numAt (cut 32 line) 1,numAt (cut 32 line) 2,numAt (cut 32 line) 3,readP (lineTail line)⟩ hab.1 hab.2.1
 rw [e1,e2]
 have cT:Call Tryz.prog 50 [.c (.sl 0 1 0 (cut 32 line).length)] [(0,rU (cut 32 line))] 1 (.o (U (if (cut 32 line).length < 3 then [] else (cut 32 line).getD 1 []++[32]++(cut 32 line).getD 2 []++[32]))) [(0,rU (cut 32 line))] 1:=Call.own (rest:=[]) (by simp) (l31Tail_ok _ hwl hp)
 have cR:=PacketRead_ok (lineTail line) (by unfold lineTail;simp;omega)
 obtain ⟨tl,htl⟩:∃ tl:Nat,(if (cut 32 line).length < 3 then ([]:Str) else (cut 32 line).getD 1 []++[32]++(cut 32 line).getD 2 []++[32]).length=tl:=⟨_,rfl⟩
 have hq1:=hp 1
 have hq2:=hp 2
 have htl2:tl≤2000002:=by
   rw [← htl];split
   · simp
   · simp only [List.length_append,List.length_cons,List.length_nil];omega
 have htl3:lineTail line=line.drop (min line.length (4+tl)):=by
   unfold lineTail;rw [← htl];dsimp only;split
   · simp
   · congr 2;simp only [List.length_append,List.length_cons,List.length_nil];omega
 rw [htl3] at cR
 have e3:readP (lineTail line)=readP (line.drop (min line.length (4+tl))):=by rw [htl3]
 rw [e3] at cD ⊢
 generalize htx:(if (cut 32 line).length < 3 then ([]:Str) else (cut 32 line).getD 1 []++[32]++(cut 32 line).getD 2 []++[32])=tx at cT htl
 subst htl
 by_cases hm:4+tx.length < line.length
 · have em:min line.length (4+tx.length)=4+tx.length:=by omega
   have em2:(4:Int)+tx.length < line.length:=by omega
   have em3:((4:Int)+tx.length).toNat=4+tx.length:=by omega
   rw [em] at cR cD ⊢
   refine vO tok Tryz.func27 rfl rfl Tryz.ntmps27 Tryz.results27 rfl (by decide) (fun cx hnt hk0=>?_)
   repeat' (first|refine bL ?_|refine vS fun K hK=>?_|refine hK _ ?_;clear hK K|refine hX ?_;clear hX hY X Y|refine hY ?_;clear hX hY X Y|refine vB ?_|((first|refine vR tok (by rw [hnt];rfl) ?_|refine vC fun X Y hX hY=>?_|refine vT ?_|refine vF [] ?_|refine runS_c [] (c0) rfl ?_ ?_ ?_|refine runS_c [_] (c1) rfl ?_ ?_ ?_|refine runS_c [_] (c2) rfl ?_ ?_ ?_|refine runS_c [_] (c3) rfl ?_ ?_ ?_|refine runS_c [_] (cT) rfl ?_ ?_ ?_|refine runS_c [] (cR) rfl ?_ ?_ ?_|(refine runS_c [0,1,2,3,4,5,6,7,8,9,10,11,12,13,14,15,16] (cD) rfl ?_ ?_ ?_))<;>(try simp only [go_sem,qa,qb,qc,qd,qe,qf,qg,qh,qi,qj,qk,ql,qm,qn,qo,qp,qq,qr,qs,reduceIte,reduceCtorEq,h0,em2,em3,List.take_length]))|refine Fits.of ?_ ?_|refine aL ?_ fun hp=>?_|refine aE ?_ fun hp=>?_|refine And.intro ?_ ?_|clear hK K)
   all_goals first|(first|omega|(unfold Big;omega)|(rw [u8m];omega)|(rw [u8M];omega)|(simp only [dA,dB,dC];omega))
 · have em:min line.length (4+tx.length)=line.length:=by omega
   have em2:¬ (4:Int)+tx.length < line.length:=by omega
   rw [em] at cR cD ⊢
   refine vO tok Tryz.func27 rfl rfl Tryz.ntmps27 Tryz.results27 rfl (by decide) (fun cx hnt hk0=>?_)
   repeat' (first|refine bL ?_|refine vS fun K hK=>?_|refine hK _ ?_;clear hK K|refine hX ?_;clear hX hY X Y|refine hY ?_;clear hX hY X Y|refine vB ?_|((first|refine vR tok (by rw [hnt];rfl) ?_|refine vC fun X Y hX hY=>?_|refine vT ?_|refine vF [] ?_|refine runS_c [] (c0) rfl ?_ ?_ ?_|refine runS_c [_] (c1) rfl ?_ ?_ ?_|refine runS_c [_] (c2) rfl ?_ ?_ ?_|refine runS_c [_] (c3) rfl ?_ ?_ ?_|refine runS_c [_] (cT) rfl ?_ ?_ ?_|refine runS_c [] (cR) rfl ?_ ?_ ?_|(refine runS_c [0,1,2,3,4,5,6,7,8,9,10,11,12,13,14,15,16] (cD) rfl ?_ ?_ ?_))<;>(try simp only [go_sem,qa,qb,qc,qd,qe,qf,qg,qh,qi,qj,qk,ql,qm,qn,qo,qp,qq,qr,qs,reduceIte,reduceCtorEq,h0,em2,List.take_length]))|refine Fits.of ?_ ?_|refine aL ?_ fun hp=>?_|refine aE ?_ fun hp=>?_|refine And.intro ?_ ?_|clear hK K)
   all_goals first|(first|omega|(unfold Big;omega)|(rw [u8m];omega)|(rw [u8M];omega)|(simp only [dA,dB,dC];omega))
theorem l31Line_Tell (a b:Chain) (hok:wOk [a,b]=true) (line:Str) (hl:line.length≤700) (h0:(cut 32 line).getD 0 []=[116,101,108,108]) :
   Call Tryz.prog 27 [.g (worldA 0),U line] (worldH ⟨a,b⟩ 0) 17 (.tup [.g (worldA 17),U (lineOut ⟨a,b⟩ line)]) (worldH (lineDo ⟨a,b⟩ line) 17) 34:=by
 have hab:=wOk_iff.1 hok
 obtain ⟨hwl,hp⟩:=words_le line hl
 have hw0:=cut_len 32 line
 have c0:=cut_own line hl
 have c1:Call Tryz.prog 48 [.c (.sl 0 1 0 (cut 32 line).length),I 1] [(0,rU (cut 32 line))] 1 (.o (I (numAt (cut 32 line) 1))) [(0,rU (cut 32 line))] 1:=num_own _ 1 (by omega) hwl hp
 have c2:Call Tryz.prog 48 [.c (.sl 0 1 0 (cut 32 line).length),I 2] [(0,rU (cut 32 line))] 1 (.o (I (numAt (cut 32 line) 2))) [(0,rU (cut 32 line))] 1:=num_own _ 2 (by omega) hwl hp
 have c3:Call Tryz.prog 48 [.c (.sl 0 1 0 (cut 32 line).length),I 3] [(0,rU (cut 32 line))] 1 (.o (I (numAt (cut 32 line) 3))) [(0,rU (cut 32 line))] 1:=num_own _ 3 (by omega) hwl hp
 have e1:lineDo ⟨a,b⟩ line=(⟨a,b⟩:Two).on ⟨5,numAt (cut 32 line) 1,numAt (cut 32 line) 2,numAt (cut 32 line) 3,Packet.none⟩:=by
   simp [-List.getD_eq_getElem?_getD,lineDo,lineE,isEv,h0,wBlock,wKnow,wSend,wGet,wTell,wLate,wStep]
 have e2:lineOut ⟨a,b⟩ line=[]:=by simp [-List.getD_eq_getElem?_getD,lineOut,isEv,h0,wBlock,wKnow,wSend,wGet,wTell,wLate,wStep]
 have cD:=l21Do_ok ⟨a,b⟩ ⟨5,numAt (cut 32 line) 1,numAt (cut 32 line) 2,numAt (cut 32 line) 3,Packet.none⟩ hab.1 hab.2.1
 rw [e1,e2]
 refine vO tok Tryz.func27 rfl rfl Tryz.ntmps27 Tryz.results27 rfl (by decide) (fun cx hnt hk0=>?_)
 repeat' (first|refine vS fun K hK=>?_|refine hK _ ?_;clear hK K|refine hX ?_;clear hX hY X Y|refine hY ?_;clear hX hY X Y|refine vB ?_|((first|refine vR tok (by rw [hnt];rfl) ?_|refine vC fun X Y hX hY=>?_|refine vT ?_|refine vF [] ?_|refine runS_c [] (c0) rfl ?_ ?_ ?_|refine runS_c [_] (c1) rfl ?_ ?_ ?_|refine runS_c [_] (c2) rfl ?_ ?_ ?_|refine runS_c [_] (c3) rfl ?_ ?_ ?_|(refine runS_c [0,1,2,3,4,5,6,7,8,9,10,11,12,13,14,15,16] (cD) rfl ?_ ?_ ?_))<;>(try simp only [go_sem,qa,qb,qc,qd,qe,qf,qg,qh,qi,qj,qk,ql,qm,qn,qo,qp,qq,qr,qs,reduceIte,reduceCtorEq,h0,Packet.none]))|refine aL ?_ fun hp=>?_|clear hK K)
 all_goals first|(first|omega|(unfold Big;omega)|(rw [u8m];omega)|(rw [u8M];omega)|(simp only [dA,dB,dC];omega))
theorem l31Line_Late (a b:Chain) (hok:wOk [a,b]=true) (line:Str) (hl:line.length≤700) (h0:(cut 32 line).getD 0 []=[108,97,116,101]) :
   Call Tryz.prog 27 [.g (worldA 0),U line] (worldH ⟨a,b⟩ 0) 17 (.tup [.g (worldA 17),U (lineOut ⟨a,b⟩ line)]) (worldH (lineDo ⟨a,b⟩ line) 17) 34:=by
 have hab:=wOk_iff.1 hok
 obtain ⟨hwl,hp⟩:=words_le line hl
 have hw0:=cut_len 32 line
 have c0:=cut_own line hl
 have c1:Call Tryz.prog 48 [.c (.sl 0 1 0 (cut 32 line).length),I 1] [(0,rU (cut 32 line))] 1 (.o (I (numAt (cut 32 line) 1))) [(0,rU (cut 32 line))] 1:=num_own _ 1 (by omega) hwl hp
 have c2:Call Tryz.prog 48 [.c (.sl 0 1 0 (cut 32 line).length),I 2] [(0,rU (cut 32 line))] 1 (.o (I (numAt (cut 32 line) 2))) [(0,rU (cut 32 line))] 1:=num_own _ 2 (by omega) hwl hp
 have c3:Call Tryz.prog 48 [.c (.sl 0 1 0 (cut 32 line).length),I 3] [(0,rU (cut 32 line))] 1 (.o (I (numAt (cut 32 line) 3))) [(0,rU (cut 32 line))] 1:=num_own _ 3 (by omega) hwl hp
 have e1:lineDo ⟨a,b⟩ line=(⟨a,b⟩:Two).on ⟨6,numAt (cut 32 line) 1,numAt (cut 32 line) 2,numAt (cut 32 line) 3,Packet.none⟩:=by
   simp [-List.getD_eq_getElem?_getD,lineDo,lineE,isEv,h0,wBlock,wKnow,wSend,wGet,wTell,wLate,wStep]
 have e2:lineOut ⟨a,b⟩ line=[]:=by simp [-List.getD_eq_getElem?_getD,lineOut,isEv,h0,wBlock,wKnow,wSend,wGet,wTell,wLate,wStep]
 have cD:=l21Do_ok ⟨a,b⟩ ⟨6,numAt (cut 32 line) 1,numAt (cut 32 line) 2,numAt (cut 32 line) 3,Packet.none⟩ hab.1 hab.2.1
 rw [e1,e2]
 refine vO tok Tryz.func27 rfl rfl Tryz.ntmps27 Tryz.results27 rfl (by decide) (fun cx hnt hk0=>?_)
 repeat' (first|refine vS fun K hK=>?_|refine hK _ ?_;clear hK K|refine hX ?_;clear hX hY X Y|refine hY ?_;clear hX hY X Y|refine vB ?_|((first|refine vR tok (by rw [hnt];rfl) ?_|refine vC fun X Y hX hY=>?_|refine vT ?_|refine vF [] ?_|refine runS_c [] (c0) rfl ?_ ?_ ?_|refine runS_c [_] (c1) rfl ?_ ?_ ?_|refine runS_c [_] (c2) rfl ?_ ?_ ?_|refine runS_c [_] (c3) rfl ?_ ?_ ?_|(refine runS_c [0,1,2,3,4,5,6,7,8,9,10,11,12,13,14,15,16] (cD) rfl ?_ ?_ ?_))<;>(try simp only [go_sem,qa,qb,qc,qd,qe,qf,qg,qh,qi,qj,qk,ql,qm,qn,qo,qp,qq,qr,qs,reduceIte,reduceCtorEq,h0,Packet.none]))|refine aL ?_ fun hp=>?_|clear hK K)
 all_goals first|(first|omega|(unfold Big;omega)|(rw [u8m];omega)|(rw [u8M];omega)|(simp only [dA,dB,dC];omega))
theorem l31Line_Step (a b:Chain) (hok:wOk [a,b]=true) (line:Str) (hl:line.length≤700) (h0:(cut 32 line).getD 0 []=[115,116,101,112]) :
   Call Tryz.prog 27 [.g (worldA 0),U line] (worldH ⟨a,b⟩ 0) 17 (.tup [.g (worldA 17),U (lineOut ⟨a,b⟩ line)]) (worldH (lineDo ⟨a,b⟩ line) 17) 34:=by
 have hab:=wOk_iff.1 hok
 obtain ⟨hwl,hp⟩:=words_le line hl
 have hw0:=cut_len 32 line
 have c0:=cut_own line hl
 have c1:Call Tryz.prog 48 [.c (.sl 0 1 0 (cut 32 line).length),I 1] [(0,rU (cut 32 line))] 1 (.o (I (numAt (cut 32 line) 1))) [(0,rU (cut 32 line))] 1:=num_own _ 1 (by omega) hwl hp
 have c2:Call Tryz.prog 48 [.c (.sl 0 1 0 (cut 32 line).length),I 2] [(0,rU (cut 32 line))] 1 (.o (I (numAt (cut 32 line) 2))) [(0,rU (cut 32 line))] 1:=num_own _ 2 (by omega) hwl hp
 have c3:Call Tryz.prog 48 [.c (.sl 0 1 0 (cut 32 line).length),I 3] [(0,rU (cut 32 line))] 1 (.o (I (numAt (cut 32 line) 3))) [(0,rU (cut 32 line))] 1:=num_own _ 3 (by omega) hwl hp
 have e1:lineDo ⟨a,b⟩ line=(⟨a,b⟩:Two).on ⟨7,numAt (cut 32 line) 1,numAt (cut 32 line) 2,numAt (cut 32 line) 3,Packet.none⟩:=by
   simp [-List.getD_eq_getElem?_getD,lineDo,lineE,isEv,h0,wBlock,wKnow,wSend,wGet,wTell,wLate,wStep]
 have e2:lineOut ⟨a,b⟩ line=[]:=by simp [-List.getD_eq_getElem?_getD,lineOut,isEv,h0,wBlock,wKnow,wSend,wGet,wTell,wLate,wStep]
 have cD:=l21Do_ok ⟨a,b⟩ ⟨7,numAt (cut 32 line) 1,numAt (cut 32 line) 2,numAt (cut 32 line) 3,Packet.none⟩ hab.1 hab.2.1
 rw [e1,e2]
 refine vO tok Tryz.func27 rfl rfl Tryz.ntmps27 Tryz.results27 rfl (by decide) (fun cx hnt hk0=>?_)
 repeat' (first|refine vS fun K hK=>?_|refine hK _ ?_;clear hK K|refine hX ?_;clear hX hY X Y|refine hY ?_;clear hX hY X Y|refine vB ?_|((first|refine vR tok (by rw [hnt];rfl) ?_|refine vC fun X Y hX hY=>?_|refine vT ?_|refine vF [] ?_|refine runS_c [] (c0) rfl ?_ ?_ ?_|refine runS_c [_] (c1) rfl ?_ ?_ ?_|refine runS_c [_] (c2) rfl ?_ ?_ ?_|refine runS_c [_] (c3) rfl ?_ ?_ ?_|(refine runS_c [0,1,2,3,4,5,6,7,8,9,10,11,12,13,14,15,16] (cD) rfl ?_ ?_ ?_))<;>(try simp only [go_sem,qa,qb,qc,qd,qe,qf,qg,qh,qi,qj,qk,ql,qm,qn,qo,qp,qq,qr,qs,reduceIte,reduceCtorEq,h0,Packet.none]))|refine aL ?_ fun hp=>?_|clear hK K)
 all_goals first|(first|omega|(unfold Big;omega)|(rw [u8m];omega)|(rw [u8M];omega)|(simp only [dA,dB,dC];omega))
theorem l31Line_calm (a b:Chain) (hok:wOk [a,b]=true) (line:Str) (hl:line.length≤700) (h0:(cut 32 line).getD 0 []=[99,97,108,109]) :
   Call Tryz.prog 27 [.g (worldA 0),U line] (worldH ⟨a,b⟩ 0) 17 (.tup [.g (worldA 17),U (lineOut ⟨a,b⟩ line)]) (worldH (lineDo ⟨a,b⟩ line) 17) 34:=by
 have hab:=wOk_iff.1 hok
 obtain ⟨hwl,hp⟩:=words_le line hl
 have hw0:=cut_len 32 line
 have c0:=cut_own line hl
 have c1:Call Tryz.prog 48 [.c (.sl 0 1 0 (cut 32 line).length),I 1] [(0,rU (cut 32 line))] 1 (.o (I (numAt (cut 32 line) 1))) [(0,rU (cut 32 line))] 1:=num_own _ 1 (by omega) hwl hp
 have c2:Call Tryz.prog 48 [.c (.sl 0 1 0 (cut 32 line).length),I 2] [(0,rU (cut 32 line))] 1 (.o (I (numAt (cut 32 line) 2))) [(0,rU (cut 32 line))] 1:=num_own _ 2 (by omega) hwl hp
 have c3:Call Tryz.prog 48 [.c (.sl 0 1 0 (cut 32 line).length),I 3] [(0,rU (cut 32 line))] 1 (.o (I (numAt (cut 32 line) 3))) [(0,rU (cut 32 line))] 1:=num_own _ 3 (by omega) hwl hp
 have cI:=l6In_ok (numAt (cut 32 line) 1) 0 30
 by_cases hin:In (numAt (cut 32 line) 1) 0 30=true
 · have e1:lineDo ⟨a,b⟩ line=(⟨a,b⟩:Two).calm (numAt (cut 32 line) 1).toNat:=by
     simp [-List.getD_eq_getElem?_getD,lineDo,isEv,h0,hin,wBlock,wKnow,wSend,wGet,wTell,wLate,wStep,wCalm,wSee]
   have e2:lineOut ⟨a,b⟩ line=[]:=by simp [-List.getD_eq_getElem?_getD,lineOut,isEv,h0,hin,wBlock,wKnow,wSend,wGet,wTell,wLate,wStep,wCalm,wSee]
   have hn:=In_iff.1 hin
   have cW:=WorldCalm_ok a b hok (numAt (cut 32 line) 1).toNat (by omega)
   have en:(((numAt (cut 32 line) 1).toNat:Nat):Int)=numAt (cut 32 line) 1:=by omega
   rw [en] at cW
   rw [e1,e2]
   refine vO tok Tryz.func27 rfl rfl Tryz.ntmps27 Tryz.results27 rfl (by decide) (fun cx hnt hk0=>?_)
   have hR:=fun (ops:List Oper) (Q:Exit→St→Prop) (s:St) (hd:dstOk cx.nt ops=true) h1 h2=>AWp.regionLe (P:=Tryz.prog) (c:=cx) (Q:=Q) (s:=s) (ops:=ops) (id:=24) (s':=⟨[(2,.o (.c (.ptr 17 0 0 0))),(4,.o (.c (.ptr 18 0 0 0))),(10,.o (I (numAt (cut 32 line) 1)))],[(17,.box [.t (chainsT (Two.list ⟨a,b⟩))]),(18,.box [.t (.v (.slice none 0 0))])],30⟩) tok hd h1 h2
   repeat' (first|refine hR _ _ _ (dst_of hnt rfl) ?_ ?_|refine vS fun K hK=>?_|refine hK _ ?_;clear hK K|refine hX ?_;clear hX hY X Y|refine hY ?_;clear hX hY X Y|refine vB ?_|((first|refine vR tok (by rw [hnt];rfl) ?_|refine vC fun X Y hX hY=>?_|refine runS_c [] (c0) rfl ?_ ?_ ?_|refine runS_c [_] (c1) rfl ?_ ?_ ?_|refine runS_c [_] (c2) rfl ?_ ?_ ?_|refine runS_c [_] (c3) rfl ?_ ?_ ?_|(refine runS_c [] (cI) rfl ?_ ?_ ?_))<;>(try simp only [go_sem,qa,qb,qc,qd,qe,qf,qg,qh,qi,qj,qk,ql,qm,qn,qo,qp,qq,qr,qs,reduceIte,reduceCtorEq,h0,hin,Two.list]))|refine aL ?_ fun hp=>?_|clear hK K)
   all_goals try (refine vL hk0 [0,1,2,3,4,5,6,7,8,9,10,11,12,13,14,15,16] ?_;simp only [go_sem,qa,qb,qc,qd,qe,qf,qg,qh,qi,qj,qk,ql,qm,qn,qo,qp,qq,qr,qs,reduceIte,reduceCtorEq,Two.list];done)
   all_goals try (first|omega|(unfold Big;omega)|(rw [u8m];omega)|(rw [u8M];omega)|(simp only [dA,dB,dC];omega))
   simp only [go_sem,qa,qb,qc,qd,qe,qf,qg,qh,qi,qj,qk,ql,qm,qn,qo,qp,qq,qr,qs,reduceIte,reduceCtorEq,Two.list]
   repeat' (first|refine hK _ ?_;clear hK K|((first|refine vT ?_|refine vF [] ?_|(refine runS_c [] (cW) rfl ?_ ?_ ?_))<;>(try simp only [go_sem,qa,qb,qc,qd,qe,qf,qg,qh,qi,qj,qk,ql,qm,qn,qo,qp,qq,qr,qs,reduceIte,reduceCtorEq,h0,hin,Two.list])))
   all_goals first|(first|omega|(unfold Big;omega)|(rw [u8m];omega)|(rw [u8M];omega)|(simp only [dA,dB,dC];omega))
 · have e1:lineDo ⟨a,b⟩ line=⟨a,b⟩:=by
     simp [-List.getD_eq_getElem?_getD,lineDo,isEv,h0,hin,wBlock,wKnow,wSend,wGet,wTell,wLate,wStep,wCalm,wSee]
   have e2:lineOut ⟨a,b⟩ line=wWhat:=by simp [-List.getD_eq_getElem?_getD,lineOut,isEv,h0,hin,wBlock,wKnow,wSend,wGet,wTell,wLate,wStep,wCalm,wSee]
   have hin':In (numAt (cut 32 line) 1) 0 30=false:=by simpa using hin
   rw [e1,e2]
   refine vO tok Tryz.func27 rfl rfl Tryz.ntmps27 Tryz.results27 rfl (by decide) (fun cx hnt hk0=>?_)
   repeat' (first|refine vS fun K hK=>?_|refine hK _ ?_;clear hK K|refine hX ?_;clear hX hY X Y|refine hY ?_;clear hX hY X Y|refine vB ?_|((first|refine vR tok (by rw [hnt];rfl) ?_|refine vC fun X Y hX hY=>?_|refine vK ?_|refine vT ?_|refine vF [] ?_|refine runS_c [] (c0) rfl ?_ ?_ ?_|refine runS_c [_] (c1) rfl ?_ ?_ ?_|refine runS_c [_] (c2) rfl ?_ ?_ ?_|refine runS_c [_] (c3) rfl ?_ ?_ ?_|(refine runS_c [] (cI) rfl ?_ ?_ ?_))<;>(try simp only [go_sem,qa,qb,qc,qd,qe,qf,qg,qh,qi,qj,qk,ql,qm,qn,qo,qp,qq,qr,qs,reduceIte,reduceCtorEq,h0,hin',wWhat]))|refine aL ?_ fun hp=>?_|clear hK K)
   all_goals first|(first|omega|(unfold Big;omega)|(rw [u8m];omega)|(rw [u8M];omega)|(simp only [dA,dB,dC];omega))
theorem l31Line_see (a b:Chain) (hok:wOk [a,b]=true) (line:Str) (hl:line.length≤700) (h0:(cut 32 line).getD 0 []=[115,101,101]) :
   Call Tryz.prog 27 [.g (worldA 0),U line] (worldH ⟨a,b⟩ 0) 17 (.tup [.g (worldA 17),U (lineOut ⟨a,b⟩ line)]) (worldH (lineDo ⟨a,b⟩ line) 17) 34:=by
 have hab:=wOk_iff.1 hok
 obtain ⟨hwl,hp⟩:=words_le line hl
 have hw0:=cut_len 32 line
 have c0:=cut_own line hl
 have c1:Call Tryz.prog 48 [.c (.sl 0 1 0 (cut 32 line).length),I 1] [(0,rU (cut 32 line))] 1 (.o (I (numAt (cut 32 line) 1))) [(0,rU (cut 32 line))] 1:=num_own _ 1 (by omega) hwl hp
 have c2:Call Tryz.prog 48 [.c (.sl 0 1 0 (cut 32 line).length),I 2] [(0,rU (cut 32 line))] 1 (.o (I (numAt (cut 32 line) 2))) [(0,rU (cut 32 line))] 1:=num_own _ 2 (by omega) hwl hp
 have c3:Call Tryz.prog 48 [.c (.sl 0 1 0 (cut 32 line).length),I 3] [(0,rU (cut 32 line))] 1 (.o (I (numAt (cut 32 line) 3))) [(0,rU (cut 32 line))] 1:=num_own _ 3 (by omega) hwl hp
 have e1:lineDo ⟨a,b⟩ line=⟨a,b⟩:=by simp [-List.getD_eq_getElem?_getD,lineDo,isEv,h0,wBlock,wKnow,wSend,wGet,wTell,wLate,wStep,wCalm,wSee]
 have e2:lineOut ⟨a,b⟩ line=(⟨a,b⟩:Two).text:=by simp [-List.getD_eq_getElem?_getD,lineOut,isEv,h0,wBlock,wKnow,wSend,wGet,wTell,wLate,wStep,wCalm,wSee]
 have cA:=l31All_ok a b hab.1 hab.2.1
 rw [e1,e2]
 refine vO tok Tryz.func27 rfl rfl Tryz.ntmps27 Tryz.results27 rfl (by decide) (fun cx hnt hk0=>?_)

 repeat' (first|refine vS fun K hK=>?_|refine hK _ ?_;clear hK K|refine hX ?_;clear hX hY X Y|refine hY ?_;clear hX hY X Y|refine vB ?_|((first|refine vR tok (by rw [hnt];rfl) ?_|refine vC fun X Y hX hY=>?_|refine vT ?_|refine vF [] ?_|refine runS_c [] (c0) rfl ?_ ?_ ?_|refine runS_c [_] (c1) rfl ?_ ?_ ?_|refine runS_c [_] (c2) rfl ?_ ?_ ?_|refine runS_c [_] (c3) rfl ?_ ?_ ?_|(refine AWp.draw (id:=27) tok mixed (.tak 0 (.tak 1 (.all (.cons 2 (.all (.cons 3 (.tak 4 .done) .nil)) .nil)))) [17] [2,4] (by kernel_rfl) (by kernel_rfl) (by rw [hnt];rfl) ?_)|(refine effS_v [] (cA) ?_ ?_ ?_ ?_ ?_))<;>(try simp only [go_sem,qa,qb,qc,qd,qe,qf,qg,qh,qi,qj,qk,ql,qm,qn,qo,qp,qq,qr,qs,reduceIte,reduceCtorEq,h0,Two.list]))|refine aL ?_ fun hp=>?_|clear hK K)
 all_goals first|(first|omega|(unfold Big;omega)|(rw [u8m];omega)|(rw [u8M];omega)|(simp only [dA,dB,dC];omega))
theorem l31Line_none (a b:Chain) (hok:wOk [a,b]=true) (line:Str) (hl:line.length≤700) (h0:¬ (cut 32 line).getD 0 []=wBlock∧¬ (cut 32 line).getD 0 []=wKnow∧¬ (cut 32 line).getD 0 []=wSend∧¬ (cut 32 line).getD 0 []=wGet∧¬ (cut 32 line).getD 0 []=wTell∧¬ (cut 32 line).getD 0 []=wLate∧¬ (cut 32 line).getD 0 []=wStep∧¬ (cut 32 line).getD 0 []=wCalm∧¬ (cut 32 line).getD 0 []=wSee) :
   Call Tryz.prog 27 [.g (worldA 0),U line] (worldH ⟨a,b⟩ 0) 17 (.tup [.g (worldA 17),U (lineOut ⟨a,b⟩ line)]) (worldH (lineDo ⟨a,b⟩ line) 17) 34:=by
 have hab:=wOk_iff.1 hok
 obtain ⟨hwl,hp⟩:=words_le line hl
 have hw0:=cut_len 32 line
 have c0:=cut_own line hl
 have c1:Call Tryz.prog 48 [.c (.sl 0 1 0 (cut 32 line).length),I 1] [(0,rU (cut 32 line))] 1 (.o (I (numAt (cut 32 line) 1))) [(0,rU (cut 32 line))] 1:=num_own _ 1 (by omega) hwl hp
 have c2:Call Tryz.prog 48 [.c (.sl 0 1 0 (cut 32 line).length),I 2] [(0,rU (cut 32 line))] 1 (.o (I (numAt (cut 32 line) 2))) [(0,rU (cut 32 line))] 1:=num_own _ 2 (by omega) hwl hp
 have c3:Call Tryz.prog 48 [.c (.sl 0 1 0 (cut 32 line).length),I 3] [(0,rU (cut 32 line))] 1 (.o (I (numAt (cut 32 line) 3))) [(0,rU (cut 32 line))] 1:=num_own _ 3 (by omega) hwl hp
 obtain ⟨h1,h2,h3,h4,h5,h6,h7,h8,h9⟩:=h0
 have e1:lineDo ⟨a,b⟩ line=⟨a,b⟩:=by simp [-List.getD_eq_getElem?_getD,lineDo,isEv,h1,h2,h3,h4,h5,h6,h7,h8,h9]
 have e2:lineOut ⟨a,b⟩ line=wWhat:=by simp [-List.getD_eq_getElem?_getD,lineOut,isEv,h1,h2,h3,h4,h5,h6,h7,h8,h9]
 rw [e1,e2]
 simp only [wBlock,wKnow,wSend,wGet,wTell,wLate,wStep,wCalm,wSee] at h1 h2 h3 h4 h5 h6 h7 h8 h9
 refine vO tok Tryz.func27 rfl rfl Tryz.ntmps27 Tryz.results27 rfl (by decide) (fun cx hnt hk0=>?_)
 repeat' (first|refine vS fun K hK=>?_|refine hK _ ?_;clear hK K|refine hY ?_;clear hX hY X Y|refine vB ?_|((first|refine vR tok (by rw [hnt];rfl) ?_|refine vC fun X Y hX hY=>?_|refine vT ?_|refine vF [] ?_|refine runS_c [] (c0) rfl ?_ ?_ ?_|refine runS_c [_] (c1) rfl ?_ ?_ ?_|refine runS_c [_] (c2) rfl ?_ ?_ ?_|(refine runS_c [_] (c3) rfl ?_ ?_ ?_))<;>(try simp only [go_sem,qa,qb,qc,qd,qe,qf,qg,qh,qi,qj,qk,ql,qm,qn,qo,qp,qq,qr,qs,reduceIte,reduceCtorEq,h1,h2,h3,h4,h5,h6,h7,h8,h9,wWhat]))|refine aL ?_ fun hp=>?_|clear hK K)
 all_goals first|(first|omega|(unfold Big;omega)|(rw [u8m];omega)|(rw [u8M];omega)|(simp only [dA,dB,dC];omega))
theorem l31Line_ok (a b:Chain) (hok:wOk [a,b]=true) (line:Str) (hl:line.length≤700) :
   Call Tryz.prog 27 [.g (worldA 0),U line] (worldH ⟨a,b⟩ 0) 17 (.tup [.g (worldA 17),U (lineOut ⟨a,b⟩ line)]) (worldH (lineDo ⟨a,b⟩ line) 17) 34:=by
 by_cases h1:(cut 32 line).getD 0 []=wBlock
 · exact l31Line_Block a b hok line hl h1
 by_cases h2:(cut 32 line).getD 0 []=wKnow
 · exact l31Line_Know a b hok line hl h2
 by_cases h3:(cut 32 line).getD 0 []=wSend
 · exact l31Line_Send a b hok line hl h3
 by_cases h4:(cut 32 line).getD 0 []=wGet
 · exact l31Line_Get a b hok line hl h4
 by_cases h5:(cut 32 line).getD 0 []=wTell
 · exact l31Line_Tell a b hok line hl h5
 by_cases h6:(cut 32 line).getD 0 []=wLate
 · exact l31Line_Late a b hok line hl h6
 by_cases h7:(cut 32 line).getD 0 []=wStep
 · exact l31Line_Step a b hok line hl h7
 by_cases h8:(cut 32 line).getD 0 []=wCalm
 · exact l31Line_calm a b hok line hl h8
 by_cases h9:(cut 32 line).getD 0 []=wSee
 · exact l31Line_see a b hok line hl h9
 exact l31Line_none a b hok line hl ⟨h1,h2,h3,h4,h5,h6,h7,h8,h9⟩
theorem two_text_len (w:Two) (h:wOk w.list=true):w.text.length≤400:=by
 have hab:=wOk_iff.1 h
 have h1:=text_len w.a hab.1
 have h2:=text_len w.b hab.2.1
 unfold Two.text
 simp only [List.length_append];omega
theorem lineOut_len (w:Two) (h:wOk w.list=true) (x:Str):(lineOut w x).length≤400:=by
 have:=two_text_len w h
 unfold lineOut
 dsimp only
 split
 · simp
 split
 · split<;>simp [wWhat]
 split
 · exact this
 · simp [wWhat]
theorem runL_len (ls:List Str) (w:Two) (h:wOk w.list=true):(runL w ls).2.length≤400 * ls.length:=by
 induction ls generalizing w with
 | nil=>simp [runL]
 | cons l ls ih =>
   have h1:=ih _ (lineDo_wOk w h l)
   have h2:=lineOut_len w h l
   simp only [runL,List.length_append,List.length_cons];omega
theorem linesT_len (s:Str):(linesT s).length≤300000:=by
 unfold linesT
 split
 · simp [tooLong]
 · have h1:=runL_len (cut 10 s).dropLast Two.new two_new_wOk
   have h2:=two_text_len _ (runL_wOk (cut 10 s).dropLast Two.new two_new_wOk)
   have h3:=cut_len 10 s
   simp only [List.length_append,List.length_dropLast] at h1 ⊢
   omega
theorem LinesRun_long (text:Str) (h:600 < text.length) (h2:text.length≤3000000):Call Tryz.prog 15 [U text] [] 0 (.o (U (linesT text))) [] 0:=by
 have e:linesT text=tooLong:=by unfold linesT;rw [if_pos h]
 rw [e]
 refine vO tok Tryz.func15 rfl rfl Tryz.ntmps15 Tryz.results15 rfl (by decide) (fun cx hnt hk0=>?_)
 repeat' (first|refine vS fun K hK=>?_|refine hK _ ?_;clear hK K|refine hX ?_;clear hX hY X Y|((first|refine vR tok (by rw [hnt];rfl) ?_|refine vC fun X Y hX hY=>?_|refine vT ?_|refine vF [] ?_|(apply gC<;>intro hq<;>(try simp only [nT,nF,n1,n0] at hq)<;>(have hb:=hq)<;>(try simp only [dT,dF,eT,eF] at hb)<;>first|(exfalso;omega)|((try simp only [hq]);clear hq)))<;>(try simp only [go_sem,qa,qb,qc,qd,qe,qf,qg,qh,qi,qj,qk,ql,qm,qn,qo,qp,qq,qr,qs,reduceIte,reduceCtorEq,tooLong])))
 all_goals first|(first|omega|(unfold Big;omega)|(rw [u8m];omega)|(rw [u8M];omega)|(simp only [dA,dB,dC];omega))
theorem LinesRun_short (text:Str) (h:text.length≤600):Call Tryz.prog 15 [U text] [] 0 (.o (U (linesT text))) [] 0:=by
 have e:linesT text=(runL Two.new (cut 10 text).dropLast).2++(runL Two.new (cut 10 text).dropLast).1.text:=by unfold linesT;rw [if_neg (by omega)]
 rw [e]
 have c0:Call Tryz.prog 26 [U text,.c (.t (.v (.int .u8 10)))] [] 0 (.o (.c (.sl 0 1 0 (cut 10 text).length))) [(0,rU (cut 10 text))] 1:=l2Cut_ok text 10 (by omega)
 have hl:=cut_len 10 text
 have hp:∀ i,((cut 10 text).getD i []).length≤700:=fun i=>Nat.le_trans (cut_piece 10 text i) (by omega)
 rw [dropLast_take]
 generalize cut 10 text=ls at c0 hl hp ⊢
 refine vO tok Tryz.func15 rfl rfl Tryz.ntmps15 Tryz.results15 rfl (by decide) (fun cx hnt hk0=>?_)
 repeat' (first|refine vS fun K hK=>?_|refine hK _ ?_;clear hK K|refine hY ?_;clear hX hY X Y|refine vB ?_|((first|refine vR tok (by rw [hnt];rfl) ?_|refine vC fun X Y hX hY=>?_|refine vK ?_|refine runS_c [] (c0) rfl ?_ ?_ ?_|refine runS_c [] (WorldNew_ok) rfl ?_ ?_ ?_|(apply gC<;>intro hq<;>(try simp only [nT,nF,n1,n0] at hq)<;>(have hb:=hq)<;>(try simp only [dT,dF,eT,eF] at hb)<;>first|(exfalso;omega)|((try simp only [hq]);clear hq)))<;>(try simp only [go_sem,qa,qb,qc,qd,qe,qf,qg,qh,qi,qj,qk,ql,qm,qn,qo,qp,qq,qr,qs,reduceIte,reduceCtorEq])))
 all_goals try (first|omega|(unfold Big;omega)|(rw [u8m];omega)|(rw [u8M];omega)|(simp only [dA,dB,dC];omega))
 refine AWp.loop (fun i:Nat=>⟨[(3,.o (.c (.ptr 18 0 0 0))),(4,.o (U (runL Two.new (ls.take i)).2)),(5,.o (.c (.sl 19 1 0 ls.length))),(6,.o (I i))],(19,rU ls) ::(18,.box (worldA 0)) ::worldH (runL Two.new (ls.take i)).1 0,20⟩) (fun i=>i≤ls.length - 1) (fun i=>ls.length - i) 0 (Nat.zero_le _) ?_ ?_
 · refine vL hk0 [] ?_;simp only [go_sem,qa,qb,qc,qd,qe,qf,qg,qh,qi,qj,qk,ql,qm,qn,qo,qp,qq,qr,qs,reduceIte,reduceCtorEq,List.take_zero,runL]
   all_goals first|rfl|omega|simp
 intro i hi
 have hlen:=runL_len (ls.take i) Two.new two_new_wOk
 have hw:=runL_wOk (ls.take i) Two.new two_new_wOk
 have htl:(ls.take i).length≤i:=List.length_take_le i ls
 by_cases hlt:i < ls.length - 1
 · have e1:ls.take (i+1)=ls.take i++[ls.getD i []]:=by rw [List.take_succ];simp [List.getD,show i < ls.length by omega]
   have e2:runL Two.new (ls.take (i+1))=(lineDo (runL Two.new (ls.take i)).1 (ls.getD i []),(runL Two.new (ls.take i)).2++lineOut (runL Two.new (ls.take i)).1 (ls.getD i [])):=by rw [e1,runL_snoc]
   have hlo:=lineOut_len _ hw (ls.getD i [])
   have hpi:=hp i
   generalize runL Two.new (ls.take i)=r at hlen hw hlo e2 ⊢
   obtain ⟨⟨a,b⟩,out⟩:=r
   have cL:=l31Line_ok a b hw (ls.getD i []) hpi
   have hq:(lineOut ⟨a,b⟩ (ls.getD i [])).length≤400:=hlo
   have hr:out.length≤400 * (ls.take i).length:=hlen

   repeat' (first|refine bL ?_|refine vS fun K hK=>?_|refine hK _ ?_;clear hK K|refine hX ?_;clear hX hY X Y|refine vB ?_|((first|refine vR tok (by rw [hnt];rfl) ?_|refine vC fun X Y hX hY=>?_|refine vK ?_|(refine AWp.draw (id:=9) tok mixed (.tak 0 (.tak 1 (.tak 2 (.tak 3 (.tak 4 (.all (.cons 5 (.tak 6 (.tak 7 (.tak 8 (.all (.cons 9 (.all (.cons 10 (.tak 11 .done) .nil)) .nil))))) (.cons 9 (.all (.cons 5 (.tak 6 (.tak 7 (.tak 8 (.all (.cons 10 (.tak 11 .done) .nil))))) .nil)) .nil)))))))) [18,19] [3,5,6] (by kernel_rfl) (by kernel_rfl) (by rw [hnt];rfl) ?_)|refine effS_c [0,1,2,3,4,5,6,7,8,9,10,11,12,13,14,15,16] (cL) rfl ?_ ?_ ?_|refine vL hk0 [] ?_|(apply gC<;>intro hq<;>(try simp only [nT,nF,n1,n0] at hq)<;>(have hb:=hq)<;>(try simp only [dT,dF,eT,eF] at hb)<;>first|(exfalso;omega)|((try simp only [hq]);clear hq)))<;>(try simp only [go_sem,qa,qb,qc,qd,qe,qf,qg,qh,qi,qj,qk,ql,qm,qn,qo,qp,qq,qr,qs,reduceIte,reduceCtorEq,e2]))|refine ⟨i+1,?_,?_,?_⟩|refine Fits.of ?_ ?_|refine aL ?_ fun hp=>?_|refine aE ?_ fun hp=>?_|refine aC ?_ fun hp=>?_|refine And.intro ?_ ?_|clear hK K)
   all_goals try (first|omega|(unfold Big;omega)|(rw [u8m];omega)|(rw [u8M];omega)|(simp only [dA,dB,dC];omega))
 · have e3:i=ls.length - 1:=by omega
   subst e3
   have htx:=two_text_len _ hw
   generalize hr0:runL Two.new (ls.take (ls.length - 1))=r at hlen hw htx ⊢
   obtain ⟨⟨a,b⟩,out⟩:=r
   have hab:=wOk_iff.1 hw
   have cA:=l31All_ok a b hab.1 hab.2.1
   have hq:(Two.text ⟨a,b⟩).length≤400:=htx
   have hr:out.length≤400 * (ls.take (ls.length - 1)).length:=hlen
   repeat' (first|refine bL ?_|refine vS fun K hK=>?_|refine hK _ ?_;clear hK K|refine hY ?_;clear hX hY X Y|((first|refine vR tok (by rw [hnt];rfl) ?_|refine vC fun X Y hX hY=>?_|refine vE ?_|refine vT ?_|refine vF [] ?_|refine runS_v [] (cA) ?_ ?_ ?_ ?_ ?_|(apply gC<;>intro hq<;>(try simp only [nT,nF,n1,n0] at hq)<;>(have hb:=hq)<;>(try simp only [dT,dF,eT,eF] at hb)<;>first|(exfalso;omega)|((try simp only [hq]);clear hq)))<;>(try simp only [go_sem,qa,qb,qc,qd,qe,qf,qg,qh,qi,qj,qk,ql,qm,qn,qo,qp,qq,qr,qs,reduceIte,reduceCtorEq,Two.list]))|refine Fits.of ?_ ?_|refine aE ?_ fun hp=>?_|refine And.intro ?_ ?_|clear hK K)
   all_goals try (rw [hr0];done)
   all_goals try (first|omega|(unfold Big;omega)|(rw [u8m];omega)|(rw [u8M];omega)|(simp only [dA,dB,dC];omega))
end Go.Hw
