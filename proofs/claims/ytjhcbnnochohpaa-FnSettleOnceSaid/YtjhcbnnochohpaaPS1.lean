/- What is proved here: parts of the walk of the law and of its plain side; no condition but those that each theorem states. -/
import Derived.Test.YtjhcbnnochohpaaPD1
set_option linter.all false
set_option maxRecDepth 100000
set_option maxHeartbeats 16000000
open Int renaming reduceToNat→qk,reduceAdd→ql,reduceSub→qm,reduceNeg→qn,reduceLT→qo,reduceLE→qp,reduceEq→qq,reduceBEq→qr,reduceBNe→qs
open Nat renaming reduceDiv→qa,reduceMod→qb,reduceAdd→qc,reduceMul→qd,reduceSub→qe,reduceLeDiff→qf,reduceBEq→qg,reduceEqDiff→qh,reduceBeqDiff→qi,reduceLT→qj
open Go.Hw renaming runG_split→gR,condG_split→gC,takG_split→gT,effG_split→gE
open Go.Hw.AWp renaming region→vR,seq→vS,cond'→vC,block→vB,skip→vK,ret→vT,exit→vE
open Go.Hw.Fin renaming auto→vF
open Go.Hw.SLe renaming auto→vL
open Go.Hw.CallX renaming of→vO
namespace Go.Hw
open Go.Proofs
theorem l6In_ok (n l h:Int):Call Try.prog 23 [I n,I l,I h] [] 0 (.o (BB (In n l h))) [] 0:=by
 refine vO tok Try.func23 rfl rfl Try.ntmps23 Try.results23 rfl (by decide) (fun cx hnt hk0=>?_)
 repeat' (first|refine vS fun K hK=>?_|refine hK _ ?_;clear hK K|((first|refine vR tok (by rw [hnt];rfl) ?_|refine vT ?_|refine vF [] ?_|(apply gR<;>intro hq<;>(try simp only [nT,nF,n1,n0] at hq)<;>(have hb:=hq)<;>(try simp only [dT,dF,eT,eF] at hb)<;>first|(exfalso;omega)|((try simp only [hq]);clear hq)))<;>(try simp only [go_sem,qa,qb,qc,qd,qe,qf,qg,qh,qi,qj,qk,ql,qm,qn,qo,qp,qq,qr,qs,reduceIte,reduceCtorEq])))
 all_goals simp [In, *]
theorem l1User_ok (n:Int):Call Try.prog 88 [I n] [] 0 (.o (BB (In n 1 3))) [] 0:=by
 refine vO tok Try.func88 rfl rfl Try.ntmps88 Try.results88 rfl (by decide) (fun cx hnt hk0=>?_)
 repeat' (first|refine vS fun K hK=>?_|refine hK _ ?_;clear hK K|((first|refine vR tok (by rw [hnt];rfl) ?_|refine vT ?_|refine vF [] ?_|(refine runS_c [] (l6In_ok _ _ _) rfl ?_ ?_ ?_))<;>(try simp only [go_sem,qa,qb,qc,qd,qe,qf,qg,qh,qi,qj,qk,ql,qm,qn,qo,qp,qq,qr,qs,reduceIte,reduceCtorEq])))
theorem PacketOk_ok (p:Packet):Call Try.prog 55 [p.av] [] 0 (.o (BB p.ok)) [] 0:=by
 refine vO tok Try.func55 rfl rfl Try.ntmps55 Try.results55 rfl (by decide) (fun cx hnt hk0=>?_)
 repeat' (first|refine vS fun K hK=>?_|refine hK _ ?_;clear hK K|((first|refine vR tok (by rw [hnt];rfl) ?_|refine vT ?_|refine vF [] ?_|refine runS_c [] (l6In_ok _ _ _) rfl ?_ ?_ ?_|refine runS_c [] (l1User_ok _) rfl ?_ ?_ ?_|(apply gR<;>intro hq<;>(try simp only [nT,nF,n1,n0] at hq)<;>(have hb:=hq)<;>(try simp only [dT,dF,eT,eF] at hb)<;>first|(exfalso;omega)|((try simp only [hq]);clear hq)))<;>(try simp only [go_sem,qa,qb,qc,qd,qe,qf,qg,qh,qi,qj,qk,ql,qm,qn,qo,qp,qq,qr,qs,reduceIte,reduceCtorEq])))
 all_goals simp [Packet.ok, *]
theorem l1All_ok (l:List Int) (hp:parts l=true):Call Try.prog 87 [.c (.t (intsT l))] [] 0 (.o (I (isum l))) [] 0:=by
 refine vO tok Try.func87 rfl rfl Try.ntmps87 Try.results87 rfl (by decide) (fun cx hnt hk0=>?_)
 repeat' (first|refine vS fun K hK=>?_|refine hK _ ?_;clear hK K|refine vB ?_|((refine vR tok (by rw [hnt];rfl) ?_)<;>(try simp only [go_sem,qa,qb,qc,qd,qe,qf,qg,qh,qi,qj,qk,ql,qm,qn,qo,qp,qq,qr,qs,reduceIte,reduceCtorEq])))
 refine AWp.loop (fun i:Nat=>⟨[(0,.o (.c (.t (intsT l)))),(3,.o (I (isum (l.take i)))),(4,.o (I i))],[],0⟩) (fun i=>i≤l.length) (fun i=>l.length - i) 0 (Nat.zero_le _) ?_ ?_
 · refine vL hk0 [] ?_;simp only [go_sem,qa,qb,qc,qd,qe,qf,qg,qh,qi,qj,qk,ql,qm,qn,qo,qp,qq,qr,qs,reduceIte,reduceCtorEq,List.take_zero,isum,List.foldl_nil]
   simp
 intro i hi
 have h1:=parts_len hp
 have h2:=parts_get hp i
 have h3:=parts_sum hp i hi
 repeat' (first|refine vS fun K hK=>?_|refine hK _ ?_;clear hK K|refine hX ?_;clear hX hY X Y|refine hY ?_;clear hX hY X Y|refine vB ?_|((first|refine vR tok (by rw [hnt];rfl) ?_|refine vC fun X Y hX hY=>?_|refine vK ?_|refine vE ?_|refine vT ?_|refine vF [] ?_|(apply gC<;>intro hq<;>(try simp only [nT,nF,n1,n0] at hq)<;>(have hb:=hq)<;>(try simp only [dT,dF,eT,eF] at hb)<;>first|(exfalso;omega)|((try simp only [hq]);clear hq)))<;>(try simp only [go_sem,qa,qb,qc,qd,qe,qf,qg,qh,qi,qj,qk,ql,qm,qn,qo,qp,qq,qr,qs,reduceIte,reduceCtorEq]))|refine Fits.of ?_ ?_|refine aE ?_ fun hp=>?_|refine aC ?_ fun hp=>?_|refine And.intro ?_ ?_|clear hK K)
 all_goals try (first|omega|(simp only [dA,dB,dC];omega))
 · refine ⟨i+1,by omega,?_,by omega⟩
   refine vL hk0 [] ?_;simp only [go_sem,qa,qb,qc,qd,qe,qf,qg,qh,qi,qj,qk,ql,qm,qn,qo,qp,qq,qr,qs,reduceIte,reduceCtorEq]
   rw [isum_take l i (by omega)];simp
 · rw [show i=l.length from by omega,List.take_length]
theorem l1Parts_ok (l:List Int) (hn:(l.length:Int) < 1099511627776):Call Try.prog 86 [.c (.t (intsT l))] [] 0 (.o (BB (parts l))) [] 0:=by
 refine vO tok Try.func86 rfl rfl Try.ntmps86 Try.results86 rfl (by decide) (fun cx hnt hk0=>?_)
 repeat' (first|refine vS fun K hK=>?_|refine hK _ ?_;clear hK K|refine vB ?_|((refine vR tok (by rw [hnt];rfl) ?_)<;>(try simp only [go_sem,qa,qb,qc,qd,qe,qf,qg,qh,qi,qj,qk,ql,qm,qn,qo,qp,qq,qr,qs,reduceIte,reduceCtorEq])))
 refine AWp.loop (fun i:Nat=>⟨[(0,.o (.c (.t (intsT l)))),(3,.o (I i))],[],0⟩) (fun i=>i≤l.length∧rall i (fun i=>In (l.getD i 0) 0 30)=true) (fun i=>l.length - i) 0 ⟨Nat.zero_le _,rall_zero⟩ ?_ ?_
 · refine vL hk0 [] ?_;simp only [go_sem,qa,qb,qc,qd,qe,qf,qg,qh,qi,qj,qk,ql,qm,qn,qo,qp,qq,qr,qs,reduceIte,reduceCtorEq]
   simp
 intro i ⟨hi,hr⟩
 repeat' (first|refine vS fun K hK=>?_|refine hK _ ?_;clear hK K|refine hX ?_;clear hX hY X Y|refine hY ?_;clear hX hY X Y|refine vB ?_|((first|refine vR tok (by rw [hnt];rfl) ?_|refine vC fun X Y hX hY=>?_|refine vK ?_|refine vE ?_|refine vT ?_|refine vF [] ?_|refine runS_c [] (l6In_ok _ _ _) rfl ?_ ?_ ?_|refine vL hk0 [] ?_|(apply gC<;>intro hq<;>(try simp only [nT,nF,n1,n0] at hq)<;>(have hb:=hq)<;>(try simp only [dT,dF,eT,eF] at hb)<;>first|(exfalso;omega)|((try simp only [hq]);clear hq)))<;>(try simp only [go_sem,qa,qb,qc,qd,qe,qf,qg,qh,qi,qj,qk,ql,qm,qn,qo,qp,qq,qr,qs,reduceIte,reduceCtorEq]))|refine ⟨i+1,?_,?_,?_⟩|refine Fits.of ?_ ?_|refine aE ?_ fun hp=>?_|refine aC ?_ fun hp=>?_|refine And.intro ?_ ?_|clear hK K)
 all_goals try (first|omega|(simp only [dA,dB,dC];omega))
 · simp only [parts]
   rw [rall_false (by omega) (p:=fun i=>In (l.getD i 0) 0 30) (i:=i) (by simpa using hb)];rfl
 · exact rall_succ hr (by simpa using hb)
 · rw [show i=l.length from by omega] at hr
   simp only [parts,hr,Bool.true_and]
theorem BankOk_ok (b:Bank) (hn:(b.own.length:Int) < 1099511627776) (hm:(b.notes.length:Int) < 1099511627776) (hl:b.locked < 1099511627776):Call Try.prog 54 [b.av] [] 0 (.o (BB b.ok)) [] 0:=by
 refine vO tok Try.func54 rfl rfl Try.ntmps54 Try.results54 rfl (by decide) (fun cx hnt hk0=>?_)

 repeat' (first|refine vS fun K hK=>?_|refine hK _ ?_;clear hK K|((first|refine vR tok (by rw [hnt];rfl) ?_|refine vT ?_|refine vF [] ?_|(refine AWp.draw (id:=1) tok mixed (.tak 0 (.tak 1 (.all (.cons 2 (.tak 3 (.tak 4 (.tak 5 (.all (.cons 6 (.tak 7 (.tak 8 (.tak 9 (.tak 10 (.tak 11 (.tak 12 (.tak 13 (.tak 14 (.tak 15 (.tak 17 (.tak 18 (.all (.cons 16 (.tak 19 (.tak 20 (.tak 21 (.tak 22 (.tak 23 (.tak 24 (.all (.cons 25 (.tak 26 (.tak 27 (.tak 28 .done))) .nil)))))))) .nil))))))))))))) .nil))))) .nil)))) [0] [1] (by kernel_rfl) (by kernel_rfl) (by rw [hnt];rfl) ?_)|refine effS_c [] (l1Parts_ok b.own hn) rfl ?_ ?_ ?_|refine effS_c [] (l1Parts_ok b.notes hm) rfl ?_ ?_ ?_|(refine effS_c [] (l1All_ok b.own (by assumption)) rfl ?_ ?_ ?_)|(refine effS_c [] (l1All_ok b.notes (by assumption)) rfl ?_ ?_ ?_)|(apply gT<;>intro hq<;>(try simp only [nT,nF,n1,n0] at hq)<;>(have hb:=hq)<;>(try simp only [dT,dF,eT,eF] at hb)<;>first|(exfalso;omega)|((try simp only [hq]);clear hq)))<;>(try simp only [go_sem,qa,qb,qc,qd,qe,qf,qg,qh,qi,qj,qk,ql,qm,qn,qo,qp,qq,qr,qs,reduceIte,reduceCtorEq]))|refine Fits.of ?_ ?_|refine And.intro ?_ ?_|clear hK K)
 all_goals try (have h0:parts b.own=true:=by assumption
                have:=parts_all h0;omega)
 all_goals try (simp [Bank.ok, *];done)
theorem StateOk_ok (s:State) (h1:(s.sent.length:Int) < 1099511627776) (h4:(s.got.length:Int) < 1099511627776):Call Try.prog 22 [s.av] [] 0 (.o (BB s.ok)) [] 0:=by
 refine vO tok Try.func22 rfl rfl Try.ntmps22 Try.results22 rfl (by decide) (fun cx hnt hk0=>?_)

 repeat' (first|refine vS fun K hK=>?_|refine hK _ ?_;clear hK K|refine hX ?_;clear hX hY X Y|refine hY ?_;clear hX hY X Y|refine vB ?_|((first|refine vR tok (by rw [hnt];rfl) ?_|refine vC fun X Y hX hY=>?_|refine vK ?_|refine vT ?_|refine vF [] ?_|refine runS_c [] (l6In_ok _ _ _) rfl ?_ ?_ ?_|((first|apply gR|apply gC)<;>intro hq<;>(try simp only [nT,nF,n1,n0] at hq)<;>(have hb:=hq)<;>(try simp only [dT,dF,eT,eF] at hb)<;>first|(exfalso;omega)|((try simp only [hq]);clear hq)))<;>(try simp only [go_sem,qa,qb,qc,qd,qe,qf,qg,qh,qi,qj,qk,ql,qm,qn,qo,qp,qq,qr,qs,reduceIte,reduceCtorEq]))|clear hK K)
 all_goals try (first|omega|(simp only [dA,dB,dC];omega))
 all_goals try (first|(simp [-List.getD_eq_getElem?_getD,State.ok, *];done)|(simp [-List.getD_eq_getElem?_getD,State.ok, *];omega)|(simp [-List.getD_eq_getElem?_getD,State.ok, *];intros;omega))
 refine AWp.loop (fun i:Nat=>⟨[(1,.o (.c (.ptr 0 0 0 0))),(2,.o (BB false)),(3,.o (I s.sent.length)),(4,.o (I i))],[(0,s.box)],1⟩) (fun i=>i≤s.sent.length∧rall i s.sentOk=true) (fun i=>s.sent.length - i) 0 ⟨Nat.zero_le _,rall_zero⟩ ?_ ?_
 · refine vL hk0 [] ?_;simp only [go_sem,qa,qb,qc,qd,qe,qf,qg,qh,qi,qj,qk,ql,qm,qn,qo,qp,qq,qr,qs,reduceIte,reduceCtorEq]
   simp
 intro i ⟨hi,hr⟩
 repeat' (first|refine vS fun K hK=>?_|refine hK _ ?_;clear hK K|refine hX ?_;clear hX hY X Y|refine hY ?_;clear hX hY X Y|refine vB ?_|((first|refine vR tok (by rw [hnt];rfl) ?_|refine vC fun X Y hX hY=>?_|refine vK ?_|refine vE ?_|refine vT ?_|refine vF [] ?_|(refine AWp.draw (id:=7) tok mixed (.tak 0 (.tak 1 (.tak 2 (.tak 3 (.tak 4 (.all (.cons 5 (.tak 6 (.tak 7 (.tak 8 (.tak 9 (.tak 10 (.tak 11 (.tak 12 (.tak 13 (.tak 14 (.tak 15 (.tak 16 (.tak 17 (.tak 18 (.tak 19 (.tak 20 (.tak 21 (.tak 22 (.tak 23 (.tak 24 (.tak 25 (.tak 26 (.tak 27 (.tak 28 (.tak 29 (.tak 30 (.tak 31 (.tak 32 (.tak 33 (.tak 34 (.tak 35 (.tak 36 (.tak 37 (.tak 38 (.tak 39 (.tak 40 (.tak 41 (.tak 42 .done))))))))))))))))))))))))))))))))))))) .nil))))))) [0] [1,4] (by kernel_rfl) (by kernel_rfl) (by rw [hnt];rfl) ?_)|(refine effS_c [] (PacketOk_ok (s.sent.getD i default)) rfl ?_ ?_ ?_)|refine vL hk0 [] ?_|((first|apply gC|apply gT)<;>intro hq<;>(try simp only [nT,nF,n1,n0] at hq)<;>(have hb:=hq)<;>(try simp only [dT,dF,eT,eF] at hb)<;>first|(exfalso;omega)|((try simp only [hq]);clear hq)))<;>(try simp only [go_sem,qa,qb,qc,qd,qe,qf,qg,qh,qi,qj,qk,ql,qm,qn,qo,qp,qq,qr,qs,reduceIte,reduceCtorEq]))|refine ⟨i+1,?_,?_,?_⟩|refine Fits.of ?_ ?_|refine aE ?_ fun hp=>?_|refine aC ?_ fun hp=>?_|refine And.intro ?_ ?_|clear hK K)
 all_goals try (first|omega|(simp only [dA,dB,dC];omega))
 all_goals try (have h0:s.sentOk i=false:=by simp [-List.getD_eq_getElem?_getD,State.sentOk, *]
                have h9:=rall_false (p:=s.sentOk) (i:=i) (n:=s.sent.length) (by omega) h0
                simp [-List.getD_eq_getElem?_getD,State.ok,h9];done)
 all_goals try (refine rall_succ hr ?_;simp [-List.getD_eq_getElem?_getD,State.sentOk, *];omega)
 have hr2:rall s.sent.length s.sentOk=true:=by rw [show s.sent.length=i from by omega];exact hr
 refine AWp.loop (fun i:Nat=>⟨[(1,.o (.c (.ptr 0 0 0 0))),(2,.o (BB false)),(5,.o (I i))],[(0,s.box)],1⟩) (fun i=>i≤s.got.length∧rall i (fun i=>In (s.got.getD i 0) 0 2)=true) (fun i=>s.got.length - i) 0 ⟨Nat.zero_le _,rall_zero⟩ ?_ ?_
 · refine vL hk0 [] ?_;simp only [go_sem,qa,qb,qc,qd,qe,qf,qg,qh,qi,qj,qk,ql,qm,qn,qo,qp,qq,qr,qs,reduceIte,reduceCtorEq]
   simp
 intro j ⟨hj,hrj⟩
 repeat' (first|refine vS fun K hK=>?_|refine hK _ ?_;clear hK K|refine hX ?_;clear hX hY X Y|refine hY ?_;clear hX hY X Y|refine vB ?_|((first|refine vR tok (by rw [hnt];rfl) ?_|refine vC fun X Y hX hY=>?_|refine vK ?_|refine vE ?_|refine vT ?_|refine vF [] ?_|refine runS_c [] (l6In_ok _ _ _) rfl ?_ ?_ ?_|refine vL hk0 [] ?_|((first|apply gR|apply gC)<;>intro hq<;>(try simp only [nT,nF,n1,n0] at hq)<;>(have hb:=hq)<;>(try simp only [dT,dF,eT,eF] at hb)<;>first|(exfalso;omega)|((try simp only [hq]);clear hq)))<;>(try simp only [go_sem,qa,qb,qc,qd,qe,qf,qg,qh,qi,qj,qk,ql,qm,qn,qo,qp,qq,qr,qs,reduceIte,reduceCtorEq]))|refine ⟨j+1,?_,?_,?_⟩|refine Fits.of ?_ ?_|refine aE ?_ fun hp=>?_|refine aC ?_ fun hp=>?_|refine And.intro ?_ ?_|clear hK K)
 all_goals try (first|omega|(simp only [dA,dB,dC];omega))
 all_goals try (have h0:In (s.got.getD j 0) 0 2=false:=by simpa using hb
                have h9:=rall_false (p:=fun i=>In (s.got.getD i 0) 0 2) (i:=j) (n:=s.got.length) (by omega) h0
                simp only [State.ok,h9];simp;done)
 all_goals try exact rall_succ hrj (by simpa using hb)
 all_goals try (simp only [In_iff] at *;omega)
 all_goals (have hr3:rall s.got.length (fun i=>In (s.got.getD i 0) 0 2)=true:=by rw [show s.got.length=j from by omega];exact hrj)
 all_goals (have h8:(s.sent.length:Int)≤8:=by omega)
 all_goals simp only [State.ok,hr2,hr3]
 all_goals simp [-List.getD_eq_getElem?_getD, *]
 all_goals (intros;decide)
theorem liveN_take (l:List Bool) (i:Nat) (h:i < l.length):liveN (l.take (i+1))=liveN (l.take i)+(if l.getD i false=true then 1 else 0):=by
 unfold liveN
 rw [List.take_succ,List.filter_append,List.length_append]
 simp [List.getD,h]
 cases l[i]<;>simp
theorem liveN_le (l:List Bool):liveN l≤l.length:=List.length_filter_le _ _
theorem l3Live_ok (s:State) (h:s.live.length≤1000):Call Try.prog 143 [s.av] [] 0 (.o (I s.lives)) [] 0:=by
 refine vO tok Try.func143 rfl rfl Try.ntmps143 Try.results143 rfl (by decide) (fun cx hnt hk0=>?_)
 repeat' (first|refine vS fun K hK=>?_|refine hK _ ?_;clear hK K|refine vB ?_|((refine vR tok (by rw [hnt];rfl) ?_)<;>(try simp only [go_sem,qa,qb,qc,qd,qe,qf,qg,qh,qi,qj,qk,ql,qm,qn,qo,qp,qq,qr,qs,reduceIte,reduceCtorEq])))
 refine AWp.loop (fun i:Nat=>⟨[(1,.o (.c (.ptr 0 0 0 0))),(3,.o (I (liveN (s.live.take i)))),(4,.o (I i))],[(0,s.box)],1⟩) (fun i=>i≤s.live.length) (fun i=>s.live.length - i) 0 (Nat.zero_le _) ?_ ?_
 · refine vL hk0 [] ?_;simp only [go_sem,qa,qb,qc,qd,qe,qf,qg,qh,qi,qj,qk,ql,qm,qn,qo,qp,qq,qr,qs,reduceIte,reduceCtorEq,List.take_zero,liveN,List.filter_nil]
   simp
 intro i hi
 have h1:=liveN_le (s.live.take i)
 rw [List.length_take] at h1
 repeat' (first|refine vS fun K hK=>?_|refine hK _ ?_;clear hK K|refine hX ?_;clear hX hY X Y|refine hY ?_;clear hX hY X Y|refine vB ?_|((first|refine vR tok (by rw [hnt];rfl) ?_|refine vC fun X Y hX hY=>?_|refine vK ?_|refine vE ?_|refine vT ?_|refine vF [] ?_|refine vL hk0 [] ?_|(apply gC<;>intro hq<;>(try simp only [nT,nF,n1,n0] at hq)<;>(have hb:=hq)<;>(try simp only [dT,dF,eT,eF] at hb)<;>first|(exfalso;omega)|((try simp only [hq]);clear hq)))<;>(try simp only [go_sem,qa,qb,qc,qd,qe,qf,qg,qh,qi,qj,qk,ql,qm,qn,qo,qp,qq,qr,qs,reduceIte,reduceCtorEq]))|refine ⟨i+1,?_,?_,?_⟩|refine Fits.of ?_ ?_|refine aE ?_ fun hp=>?_|refine aC ?_ fun hp=>?_|refine And.intro ?_ ?_|clear hK K)
 all_goals try (first|omega|(simp only [dA,dB,dC];omega))
 · rw [liveN_take _ _ (by omega),if_pos hb];simp
 · rw [liveN_take _ _ (by omega),if_neg (by simpa using hb)];simp
 · rw [State.lives,show i=s.live.length from by omega,List.take_length]
theorem l3Has_ok (s:State) (p:Packet) (h1:s.sent.length≤1000) (h2:s.live.length=s.sent.length):Call Try.prog 71 [s.av,p.av] [] 0 (.o (BB (s.hasB p))) [] 0:=by
 refine vO tok Try.func71 rfl rfl Try.ntmps71 Try.results71 rfl (by decide) (fun cx hnt hk0=>?_)

 repeat' (first|refine vS fun K hK=>?_|refine hK _ ?_;clear hK K|((first|refine vR tok (by rw [hnt];rfl) ?_|refine vT ?_|refine vF [] ?_|(refine AWp.draw (id:=1) tok mixed (.tak 0 (.tak 1 (.tak 2 (.tak 3 (.tak 4 (.all (.cons 5 (.tak 6 (.tak 7 (.tak 8 (.tak 9 (.tak 10 (.tak 11 (.tak 12 (.tak 13 (.tak 14 (.tak 15 (.tak 16 (.tak 17 (.tak 18 (.tak 19 (.tak 20 (.tak 21 (.tak 22 (.tak 23 (.tak 24 (.tak 25 (.tak 26 .done))))))))))))))))))))) .nil))))))) [0,1] [2,3] (by kernel_rfl) (by kernel_rfl) (by rw [hnt];rfl) ?_)|refine effS_c [] (l6In_ok _ _ _) rfl ?_ ?_ ?_|(apply gT<;>intro hq<;>(try simp only [nT,nF,n1,n0] at hq)<;>(have hb:=hq)<;>(try simp only [dT,dF,eT,eF] at hb)<;>first|(exfalso;omega)|((try simp only [hq]);clear hq)))<;>(try simp only [go_sem,qa,qb,qc,qd,qe,qf,qg,qh,qi,qj,qk,ql,qm,qn,qo,qp,qq,qr,qs,reduceIte,reduceCtorEq]))|refine Fits.of ?_ ?_|refine aE ?_ fun hp=>?_|refine aC ?_ fun hp=>?_|refine And.intro ?_ ?_|clear hK K)
 all_goals try (simp only [In_iff] at *;omega)
 all_goals (unfold State.hasB;generalize (p.seq - 1).toNat=q at *
            simp only [Bool.and_eq_true,Bool.and_eq_false_iff,decide_eq_true_eq,decide_eq_false_iff_not,Packet.eq_iff] at *
            first|(simp [-List.getD_eq_getElem?_getD, *];done)|(simp [-List.getD_eq_getElem?_getD, *];grind))
theorem l13Mine_ok (c:Chain) (seq:Int) (h1:c.state.sent.length≤1000) (h2:c.state.live.length=c.state.sent.length):Call Try.prog 56 [c.av,I seq] [] 0 (.o (BB (c.mine seq))) [] 0:=by
 refine vO tok Try.func56 rfl rfl Try.ntmps56 Try.results56 rfl (by decide) (fun cx hnt hk0=>?_)
 repeat' (first|refine vS fun K hK=>?_|refine hK _ ?_;clear hK K|((first|refine vR tok (by rw [hnt];rfl) ?_|refine vT ?_|refine vF [] ?_|refine runS_c [] (l6In_ok _ _ _) rfl ?_ ?_ ?_|(apply gR<;>intro hq<;>(try simp only [nT,nF,n1,n0] at hq)<;>(have hb:=hq)<;>(try simp only [dT,dF,eT,eF] at hb)<;>first|(exfalso;omega)|((try simp only [hq]);clear hq)))<;>(try simp only [go_sem,qa,qb,qc,qd,qe,qf,qg,qh,qi,qj,qk,ql,qm,qn,qo,qp,qq,qr,qs,reduceIte,reduceCtorEq]))|refine Fits.of ?_ ?_|refine aE ?_ fun hp=>?_|refine aC ?_ fun hp=>?_|refine And.intro ?_ ?_|clear hK K)
 all_goals try (simp only [In_iff] at *;omega)
 all_goals simp [-List.getD_eq_getElem?_getD,Chain.mine, *]
theorem l21Among_ok (l:List Int) (n:Int) (h1:l.length≤1000):Call Try.prog 132 [.c (.t (intsT l)),I n] [] 0 (.o (BB (l.contains n))) [] 0:=by
 refine vO tok Try.func132 rfl rfl Try.ntmps132 Try.results132 rfl (by decide) (fun cx hnt hk0=>?_)
 repeat' (first|refine vS fun K hK=>?_|refine hK _ ?_;clear hK K|refine vB ?_|((refine vR tok (by rw [hnt];rfl) ?_)<;>(try simp only [go_sem,qa,qb,qc,qd,qe,qf,qg,qh,qi,qj,qk,ql,qm,qn,qo,qp,qq,qr,qs,reduceIte,reduceCtorEq])))
 refine AWp.loop (fun i:Nat=>⟨[(0,.o (.c (.t (intsT l)))),(1,.o (I n)),(5,.o (I i))],[],0⟩) (fun i=>i≤l.length∧∀ j,j < i→l.getD j 0 ≠ n) (fun i=>l.length - i) 0 ⟨Nat.zero_le _,fun j hj=>absurd hj (Nat.not_lt_zero j)⟩ ?_ ?_
 · refine vL hk0 [] ?_;simp only [go_sem,qa,qb,qc,qd,qe,qf,qg,qh,qi,qj,qk,ql,qm,qn,qo,qp,qq,qr,qs,reduceIte,reduceCtorEq]
   simp
 intro i ⟨hi,hr⟩
 repeat' (first|refine vS fun K hK=>?_|refine hK _ ?_;clear hK K|refine hX ?_;clear hX hY X Y|refine hY ?_;clear hX hY X Y|refine vB ?_|((first|refine vR tok (by rw [hnt];rfl) ?_|refine vC fun X Y hX hY=>?_|refine vK ?_|refine vE ?_|refine vT ?_|refine vF [] ?_|refine vL hk0 [] ?_|(apply gC<;>intro hq<;>(try simp only [nT,nF,n1,n0] at hq)<;>(have hb:=hq)<;>(try simp only [dT,dF,eT,eF] at hb)<;>first|(exfalso;omega)|((try simp only [hq]);clear hq)))<;>(try simp only [go_sem,qa,qb,qc,qd,qe,qf,qg,qh,qi,qj,qk,ql,qm,qn,qo,qp,qq,qr,qs,reduceIte,reduceCtorEq]))|refine ⟨i+1,?_,?_,?_⟩|refine Fits.of ?_ ?_|refine aE ?_ fun hp=>?_|refine aC ?_ fun hp=>?_|refine And.intro ?_ ?_|clear hK K)
 all_goals try (first|omega|(simp only [dA,dB,dC];omega))
 · exact (contains_true (by omega) hb).symm
 · intro j hj
   rcases Nat.lt_succ_iff_lt_or_eq.1 hj with h'|rfl
   · exact hr j h'
   · exact hb
 · exact (contains_false fun j hj=>hr j (by omega)).symm
theorem l11May_ok (s o:State) (step:Int) (h1:s.live.length≤1000) (h2:o.live.length≤1000) (h3:s.ver≤1000) (h4:0≤s.ver):Call Try.prog 134 [s.av,o.av,I step] [] 0 (.o (BB (wayMay s o step))) [] 0:=by
 refine vO tok Try.func134 rfl rfl Try.ntmps134 Try.results134 rfl (by decide) (fun cx hnt hk0=>?_)
 repeat' (first|refine vS fun K hK=>?_|refine hK _ ?_;clear hK K|refine hX ?_;clear hX hY X Y|refine hY ?_;clear hX hY X Y|refine vB ?_|((first|refine vR tok (by rw [hnt];rfl) ?_|refine vC fun X Y hX hY=>?_|refine vK ?_|refine vT ?_|refine vF [] ?_|refine runS_c [] (l3Live_ok s h1) rfl ?_ ?_ ?_|refine runS_c [] (l3Live_ok o h2) rfl ?_ ?_ ?_|((first|apply gR|apply gC)<;>intro hq<;>(try simp only [nT,nF,n1,n0] at hq)<;>(have hb:=hq)<;>(try simp only [dT,dF,eT,eF] at hb)<;>first|(exfalso;omega)|((try simp only [hq]);clear hq)))<;>(try simp only [go_sem,qa,qb,qc,qd,qe,qf,qg,qh,qi,qj,qk,ql,qm,qn,qo,qp,qq,qr,qs,reduceIte,reduceCtorEq]))|refine Fits.of ?_ ?_|refine And.intro ?_ ?_|clear hK K)
 all_goals first|omega|(simp [wayMay, *];done)|(simp [wayMay, *];intros;exfalso;omega)
theorem l11Do_ok (s o:State) (step:Int) (h3:s.ver≤1000) (h4:0≤s.ver):Call Try.prog 135 [.g (stateA s 0),o.av,I step] [] 4 (.o (.g (stateA (wayDo s o step) 0))) [] 4:=by
 refine vO tok Try.func135 rfl rfl Try.ntmps135 Try.results135 rfl (by decide) (fun cx hnt hk0=>?_)
 repeat' (first|refine vS fun K hK=>?_|refine hK _ ?_;clear hK K|refine hX ?_;clear hX hY X Y|refine hY ?_;clear hX hY X Y|refine vB ?_|((first|refine vR tok (by rw [hnt];rfl) ?_|refine vC fun X Y hX hY=>?_|refine vK ?_|refine vT ?_|refine vF [] ?_|(apply gC<;>intro hq<;>(try simp only [nT,nF,n1,n0] at hq)<;>(have hb:=hq)<;>(try simp only [dT,dF,eT,eF] at hb)<;>first|(exfalso;omega)|((try simp only [hq]);clear hq)))<;>(try simp only [go_sem,qa,qb,qc,qd,qe,qf,qg,qh,qi,qj,qk,ql,qm,qn,qo,qp,qq,qr,qs,reduceIte,reduceCtorEq]))|refine Fits.of ?_ ?_|refine And.intro ?_ ?_|clear hK K)
 all_goals first|omega|simp [wayDo, *]
def mayB (s o:State) (n:Int):Bool:=s.ok && (o.ok && wayMay s o n)
theorem WayMay_ok (s o:State) (n:Int) (h1:(s.sent.length:Int) < 1099511627776) (h2:(s.got.length:Int) < 1099511627776) (h3:(o.sent.length:Int) < 1099511627776) (h4:(o.got.length:Int) < 1099511627776):Call Try.prog 142 [s.av,o.av,I n] [] 0 (.o (BB (mayB s o n))) [] 0:=by
 cases es:s.ok
 · refine vO tok Try.func142 rfl rfl Try.ntmps142 Try.results142 rfl (by decide) (fun cx hnt hk0=>?_)
   repeat' (first|refine vS fun K hK=>?_|refine hK _ ?_;clear hK K|((first|refine vR tok (by rw [hnt];rfl) ?_|refine vT ?_|refine vF [] ?_|(refine runS_c [] (StateOk_ok s h1 h2) rfl ?_ ?_ ?_))<;>(try simp only [go_sem,qa,qb,qc,qd,qe,qf,qg,qh,qi,qj,qk,ql,qm,qn,qo,qp,qq,qr,qs,reduceIte,reduceCtorEq,es,mayB])))
 cases eo:o.ok
 · refine vO tok Try.func142 rfl rfl Try.ntmps142 Try.results142 rfl (by decide) (fun cx hnt hk0=>?_)
   repeat' (first|refine vS fun K hK=>?_|refine hK _ ?_;clear hK K|((first|refine vR tok (by rw [hnt];rfl) ?_|refine vT ?_|refine vF [] ?_|refine runS_c [] (StateOk_ok s h1 h2) rfl ?_ ?_ ?_|(refine runS_c [] (StateOk_ok o h3 h4) rfl ?_ ?_ ?_))<;>(try simp only [go_sem,qa,qb,qc,qd,qe,qf,qg,qh,qi,qj,qk,ql,qm,qn,qo,qp,qq,qr,qs,reduceIte,reduceCtorEq,es,eo,mayB])))
 · obtain ⟨r1,r2,r3,r4,r5,r6,r7,r8,r9⟩:=state_ok es
   obtain ⟨t1,t2,t3,t4,t5,t6,t7,t8,t9⟩:=state_ok eo
   refine vO tok Try.func142 rfl rfl Try.ntmps142 Try.results142 rfl (by decide) (fun cx hnt hk0=>?_)
   repeat' (first|refine vS fun K hK=>?_|refine hK _ ?_;clear hK K|((first|refine vR tok (by rw [hnt];rfl) ?_|refine vT ?_|refine vF [] ?_|refine runS_c [] (StateOk_ok s h1 h2) rfl ?_ ?_ ?_|refine runS_c [] (StateOk_ok o h3 h4) rfl ?_ ?_ ?_|(refine runS_c [] (l11May_ok s o n (by omega) (by omega) (by omega) (by omega)) rfl ?_ ?_ ?_))<;>(try simp only [go_sem,qa,qb,qc,qd,qe,qf,qg,qh,qi,qj,qk,ql,qm,qn,qo,qp,qq,qr,qs,reduceIte,reduceCtorEq,es,eo,mayB])))
def nextUpTo (s o:State) (n:Nat):List Int:=((List.range n).map fun i:Nat=>(i:Int)+1).filter (mayB s o)
theorem next_succ (s o:State) (n:Nat):nextUpTo s o (n+1)=nextUpTo s o n++(if mayB s o (n+1)=true then [(n:Int)+1] else []):=by
 unfold nextUpTo
 rw [List.range_succ,List.map_append,List.filter_append]
 cases h:mayB s o (n+1)<;>simp [h]
theorem next_len (s o:State) (n:Nat):(nextUpTo s o n).length≤n:=by
 unfold nextUpTo
 refine Nat.le_trans (List.length_filter_le _ _) ?_
 simp
theorem WayNext_ok (s o:State) (h1:(s.sent.length:Int) < 1099511627776) (h2:(s.got.length:Int) < 1099511627776) (h3:(o.sent.length:Int) < 1099511627776) (h4:(o.got.length:Int) < 1099511627776):Call Try.prog 131 [s.av,o.av] [] 0 (.o (.c (.sl 0 1 0 (nextUpTo s o 7).length))) [(0,rI (nextUpTo s o 7))] 1:=by
 refine vO tok Try.func131 rfl rfl Try.ntmps131 Try.results131 rfl (by decide) (fun cx hnt hk0=>?_)
 repeat' (first|refine vS fun K hK=>?_|refine hK _ ?_;clear hK K|refine vB ?_|((refine vR tok (by rw [hnt];rfl) ?_)<;>(try simp only [go_sem,qa,qb,qc,qd,qe,qf,qg,qh,qi,qj,qk,ql,qm,qn,qo,qp,qq,qr,qs,reduceIte,reduceCtorEq])))
 refine AWp.loop (fun i:Nat=>⟨[(2,.o (.c (.ptr 0 0 0 0))),(3,.o (.c (.ptr 1 0 0 0))),(5,.o (.c (.sl 2 1 0 (nextUpTo s o i).length))),(6,.o (I ((i:Int)+1)))],[(2,rI (nextUpTo s o i)),(0,s.box),(1,o.box)],3⟩) (fun i=>i≤7) (fun i=>7 - i) 0 (Nat.zero_le _) ?_ ?_
 · refine vL hk0 [] ?_;simp only [go_sem,qa,qb,qc,qd,qe,qf,qg,qh,qi,qj,qk,ql,qm,qn,qo,qp,qq,qr,qs,reduceIte,reduceCtorEq,nextUpTo,List.range_zero,List.map_nil,List.filter_nil]
   all_goals simp
 intro i hi
 have hl:=next_len s o i
 repeat' (first|refine vS fun K hK=>?_|refine hK _ ?_;clear hK K|refine hX ?_;clear hX hY X Y|refine hY ?_;clear hX hY X Y|refine vB ?_|((first|refine vR tok (by rw [hnt];rfl) ?_|refine vC fun X Y hX hY=>?_|refine vK ?_|refine vE ?_|refine vT ?_|refine vF [] ?_|(refine runS_c [] (WayMay_ok s o ((i:Int)+1) h1 h2 h3 h4) rfl ?_ ?_ ?_)|refine vL hk0 [] ?_|(apply gC<;>intro hq<;>(try simp only [nT,nF,n1,n0] at hq)<;>(have hb:=hq)<;>(try simp only [dT,dF,eT,eF] at hb)<;>first|(exfalso;omega)|((try simp only [hq]);clear hq)))<;>(try simp only [go_sem,qa,qb,qc,qd,qe,qf,qg,qh,qi,qj,qk,ql,qm,qn,qo,qp,qq,qr,qs,reduceIte,reduceCtorEq]))|refine ⟨i+1,?_,?_,?_⟩|refine Fits.of ?_ ?_|refine aE ?_ fun hp=>?_|refine And.intro ?_ ?_|clear hK K)
 all_goals try (first|omega|(simp only [dA,dB,dC];omega))
 all_goals try (rw [next_succ,if_pos (by assumption)];simp [rle_fI];done)
 all_goals try (rw [next_succ,if_neg (by simp [*])];simp [rle_fI];done)
 all_goals (have ei:i=7:=by omega)
 all_goals (subst ei;simp [rle_fI])
def State.small (s:State):Prop:=(s.sent.length:Int) < 1099511627776∧(s.got.length:Int) < 1099511627776
def Chain.small (c:Chain):Prop:=(c.bank.own.length:Int) < 1099511627776∧(c.bank.notes.length:Int) < 1099511627776∧c.bank.locked < 1099511627776∧c.state.small∧(c.past.length:Int) < 1099511627776∧(∀ i,(c.past.getD i default).small)∧(c.knows.length:Int) < 1099511627776
theorem ChainOk_ok (c:Chain) (hs:c.small):Call Try.prog 21 [c.av] [] 0 (.o (BB c.ok)) [] 0:=by
 obtain ⟨s1,s2,s3,s4,s5,s6,s7⟩:=hs
 refine vO tok Try.func21 rfl rfl Try.ntmps21 Try.results21 rfl (by decide) (fun cx hnt hk0=>?_)

 repeat' (first|refine vS fun K hK=>?_|refine hK _ ?_;clear hK K|refine hX ?_;clear hX hY X Y|refine hY ?_;clear hX hY X Y|refine vB ?_|((first|refine vR tok (by rw [hnt];rfl) ?_|refine vC fun X Y hX hY=>?_|refine vK ?_|refine vT ?_|refine vF [] ?_|refine runS_c [] (l6In_ok _ _ _) rfl ?_ ?_ ?_|refine runS_c [] (BankOk_ok c.bank s1 s2 s3) rfl ?_ ?_ ?_|refine runS_c [] (StateOk_ok c.state s4.1 s4.2) rfl ?_ ?_ ?_|((first|apply gR|apply gC)<;>intro hq<;>(try simp only [nT,nF,n1,n0] at hq)<;>(have hb:=hq)<;>(try simp only [dT,dF,eT,eF] at hb)<;>first|(exfalso;omega)|((try simp only [hq]);clear hq)))<;>(try simp only [go_sem,qa,qb,qc,qd,qe,qf,qg,qh,qi,qj,qk,ql,qm,qn,qo,qp,qq,qr,qs,reduceIte,reduceCtorEq]))|clear hK K)
 all_goals try (first|omega|(simp only [dA,dB,dC];omega))
 all_goals try (first|(simp [-List.getD_eq_getElem?_getD,Chain.ok, *];done)|(simp [-List.getD_eq_getElem?_getD,Chain.ok, *];omega)|(simp [-List.getD_eq_getElem?_getD,Chain.ok, *];intros;omega))
 refine AWp.loop (fun i:Nat=>⟨[(1,.o (.c (.ptr 0 0 0 0))),(2,.o (BB false)),(3,.o (I i))],[(0,c.box)],1⟩) (fun i=>i≤c.past.length∧rall i (fun i=>(c.past.getD i default).ok)=true) (fun i=>c.past.length - i) 0 ⟨Nat.zero_le _,rall_zero⟩ ?_ ?_
 · refine vL hk0 [] ?_;simp only [go_sem,qa,qb,qc,qd,qe,qf,qg,qh,qi,qj,qk,ql,qm,qn,qo,qp,qq,qr,qs,reduceIte,reduceCtorEq]
   simp
 intro i ⟨hi,hr⟩
 repeat' (first|refine vS fun K hK=>?_|refine hK _ ?_;clear hK K|refine hX ?_;clear hX hY X Y|refine hY ?_;clear hX hY X Y|refine vB ?_|((first|refine vR tok (by rw [hnt];rfl) ?_|refine vC fun X Y hX hY=>?_|refine vK ?_|refine vE ?_|refine vT ?_|refine vF [] ?_|(refine runS_c [] (StateOk_ok (c.past.getD i default) (s6 i).1 (s6 i).2) rfl ?_ ?_ ?_)|refine vL hk0 [] ?_|(apply gC<;>intro hq<;>(try simp only [nT,nF,n1,n0] at hq)<;>(have hb:=hq)<;>(try simp only [dT,dF,eT,eF] at hb)<;>first|(exfalso;omega)|((try simp only [hq]);clear hq)))<;>(try simp only [go_sem,qa,qb,qc,qd,qe,qf,qg,qh,qi,qj,qk,ql,qm,qn,qo,qp,qq,qr,qs,reduceIte,reduceCtorEq]))|refine ⟨i+1,?_,?_,?_⟩|refine Fits.of ?_ ?_|refine aE ?_ fun hp=>?_|refine aC ?_ fun hp=>?_|refine And.intro ?_ ?_|clear hK K)
 all_goals try (first|omega|(simp only [dA,dB,dC];omega))
 · have h9:=rall_false (p:=fun i=>(c.past.getD i default).ok) (i:=i) (n:=c.past.length) (by omega) (by simpa using hb)
   simp only [Chain.ok,h9];simp
 · exact rall_succ hr (by simpa using hb)
 have hr2:rall c.past.length (fun i=>(c.past.getD i default).ok)=true:=by rw [show c.past.length=i from by omega];exact hr
 refine AWp.loop (fun i:Nat=>⟨[(1,.o (.c (.ptr 0 0 0 0))),(2,.o (BB false)),(4,.o (I i))],[(0,c.box)],1⟩) (fun i=>i≤c.knows.length∧rall i (knowOk c.knows)=true) (fun i=>c.knows.length - i) 0 ⟨Nat.zero_le _,rall_zero⟩ ?_ ?_
 · refine vL hk0 [] ?_;simp only [go_sem,qa,qb,qc,qd,qe,qf,qg,qh,qi,qj,qk,ql,qm,qn,qo,qp,qq,qr,qs,reduceIte,reduceCtorEq]
   simp
 intro j ⟨hj,hrj⟩
 repeat' (first|refine vS fun K hK=>?_|refine hK _ ?_;clear hK K|refine hX ?_;clear hX hY X Y|refine hY ?_;clear hX hY X Y|refine vB ?_|((first|refine vR tok (by rw [hnt];rfl) ?_|refine vC fun X Y hX hY=>?_|refine vK ?_|refine vE ?_|refine vT ?_|refine vF [] ?_|(refine AWp.draw (id:=11) tok mixed (.tak 0 (.tak 1 (.tak 2 (.tak 3 (.tak 4 (.all (.cons 5 (.tak 6 (.tak 7 (.tak 8 (.tak 9 (.tak 10 (.tak 11 (.tak 12 (.tak 13 (.tak 14 (.tak 15 (.tak 16 (.tak 17 (.tak 18 (.tak 19 (.tak 20 (.tak 21 (.tak 22 (.tak 23 (.tak 24 .done))))))))))))))))))) .nil))))))) [0] [1,4] (by kernel_rfl) (by kernel_rfl) (by rw [hnt];rfl) ?_)|refine effS_c [] (l6In_ok _ _ _) rfl ?_ ?_ ?_|refine vL hk0 [] ?_|((first|apply gC|apply gT)<;>intro hq<;>(try simp only [nT,nF,n1,n0] at hq)<;>(have hb:=hq)<;>(try simp only [dT,dF,eT,eF] at hb)<;>first|(exfalso;omega)|((try simp only [hq]);clear hq)))<;>(try simp only [go_sem,qa,qb,qc,qd,qe,qf,qg,qh,qi,qj,qk,ql,qm,qn,qo,qp,qq,qr,qs,reduceIte,reduceCtorEq]))|refine ⟨j+1,?_,?_,?_⟩|refine Fits.of ?_ ?_|refine aE ?_ fun hp=>?_|refine aC ?_ fun hp=>?_|refine And.intro ?_ ?_|clear hK K)
 all_goals try (first|omega|(simp only [dA,dB,dC];omega))
 all_goals try (have h0:knowOk c.knows j=false:=by simp only [knowOk, *,decide_true,decide_false,Bool.true_and,Bool.and_true,Bool.false_and,Bool.and_false,Bool.not_true,Bool.not_false,Bool.and_self,Bool.true_or,Bool.or_true,Bool.false_or,Bool.or_false,cond_true,cond_false,not_true_eq_false,not_false_eq_true]
                have h9:=rall_false (p:=knowOk c.knows) (i:=j) (n:=c.knows.length) (by omega) h0
                simp only [Chain.ok,h9];simp;done)
 all_goals try (refine rall_succ hrj ?_;simp only [knowOk, *,decide_true,decide_false,Bool.true_and,Bool.and_true,Bool.false_and,Bool.and_false,Bool.not_true,Bool.not_false,Bool.and_self,Bool.true_or,Bool.or_true,Bool.false_or,Bool.or_false,cond_true,cond_false,not_true_eq_false,not_false_eq_true];done)
 have hr3:rall c.knows.length (knowOk c.knows)=true:=by rw [show c.knows.length=j from by omega];exact hrj
 have h8:(c.past.length:Int)≤90:=by omega
 simp only [Chain.ok,hr2,hr3];simp [-List.getD_eq_getElem?_getD, *]
theorem WorldOk_ok (w:List Chain) (hs:∀ i,(w.getD i default).small) (hw:(w.length:Int) < 1099511627776):Call Try.prog 36 [.g [.t (chainsT w)]] [] 0 (.o (BB (wOk w))) [] 0:=by
 refine vO tok Try.func36 rfl rfl Try.ntmps36 Try.results36 rfl (by decide) (fun cx hnt hk0=>?_)

 repeat' (first|refine vS fun K hK=>?_|refine hK _ ?_;clear hK K|refine hX ?_;clear hX hY X Y|refine hY ?_;clear hX hY X Y|refine vB ?_|((first|refine vR tok (by rw [hnt];rfl) ?_|refine vC fun X Y hX hY=>?_|refine vK ?_|refine vT ?_|refine vF [] ?_|(apply gC<;>intro hq<;>(try simp only [nT,nF,n1,n0] at hq)<;>(have hb:=hq)<;>(try simp only [dT,dF,eT,eF] at hb)<;>first|(exfalso;omega)|((try simp only [hq]);clear hq)))<;>(try simp only [go_sem,qa,qb,qc,qd,qe,qf,qg,qh,qi,qj,qk,ql,qm,qn,qo,qp,qq,qr,qs,reduceIte,reduceCtorEq]))|clear hK K)
 all_goals try (first|(simp [-List.getD_eq_getElem?_getD,wOk, *];done)|(simp [-List.getD_eq_getElem?_getD,wOk, *];omega)|(simp [-List.getD_eq_getElem?_getD,wOk, *];intros;omega))
 refine AWp.loopN 3 fun L hL=>?_
 have a0:=hs 0
 have a1:=hs 1
 repeat' (first|refine vS fun K hK=>?_|refine hK _ ?_;clear hK K|refine hX ?_;clear hX hY X Y|refine hY ?_;clear hX hY X Y|refine vB ?_|refine hL _ _ ?_|((first|refine vR tok (by rw [hnt];rfl) ?_|refine vC fun X Y hX hY=>?_|refine vK ?_|refine vE ?_|refine vT ?_|refine vF [] ?_|(refine AWp.draw (id:=7) tok mixed (.tak 0 (.all (.cons 1 (.tak 2 (.tak 3 (.tak 4 (.tak 5 (.tak 6 (.tak 7 (.tak 8 (.tak 9 (.tak 10 (.tak 11 (.tak 12 (.tak 13 (.tak 14 (.tak 15 (.tak 16 (.tak 17 (.tak 18 (.tak 19 (.tak 20 (.tak 21 (.tak 22 (.tak 23 (.tak 24 (.tak 25 (.tak 26 (.tak 27 (.tak 28 (.tak 29 (.tak 30 (.tak 31 (.tak 32 (.tak 33 (.tak 34 .done))))))))))))))))))))))))))))))))) .nil))) [0,1,2] [1,3,4] (by kernel_rfl) (by kernel_rfl) (by rw [hnt];rfl) ?_)|(refine effS_c [] (ChainOk_ok (w.getD 0 default) a0) rfl ?_ ?_ ?_)|(refine effS_c [] (ChainOk_ok (w.getD 1 default) a1) rfl ?_ ?_ ?_)|((first|apply gC|apply gT)<;>intro hq<;>(try simp only [nT,nF,n1,n0] at hq)<;>(have hb:=hq)<;>(try simp only [dT,dF,eT,eF] at hb)<;>first|(exfalso;omega)|((try simp only [hq]);clear hq)))<;>(try simp only [go_sem,qa,qb,qc,qd,qe,qf,qg,qh,qi,qj,qk,ql,qm,qn,qo,qp,qq,qr,qs,reduceIte,reduceCtorEq]))|refine Fits.of ?_ ?_|(refine aL ?_ (fun hp=>?_)<;>((try simp only [rowSet_fI hp,rowSet_fI2 hp]);(try simp only [rowSet_fB hp])))|refine aE ?_ fun hp=>?_|refine aC ?_ fun hp=>?_|refine And.intro ?_ ?_|clear hK K|clear hL L)
 all_goals try (first|omega|(simp only [dA,dB,dC];omega))
 all_goals try (have q0:(((w.getD 0 default).knows.length:Int)) < 1099511627776:=a0.2.2.2.2.2.2
                have q1:(((w.getD 1 default).knows.length:Int)) < 1099511627776:=a1.2.2.2.2.2.2
                omega)
 all_goals (simp only [wOk,kOk, *,decide_true,decide_false,Bool.true_and,Bool.and_true,Bool.false_and,Bool.and_false,Bool.not_true,Bool.not_false,Bool.and_self,Bool.true_or,Bool.or_true,Bool.false_or,Bool.or_false,cond_true,cond_false,not_true_eq_false,not_false_eq_true])
end Go.Hw
namespace Go.Hw
theorem ok_small {c:Chain} (h:c.ok=true):c.small:=by
 obtain ⟨q1,q2,q3,q4,q5,q6⟩:=chain_ok h
 have q7:=knows_len q6
 obtain ⟨b1,b2,b3,b4,b5⟩:=bank_ok q2
 have b6:=parts_len b1
 have b7:=parts_len b2
 have b8:=parts_all b1
 obtain ⟨r1,r2,r3,r4,r5,r6,r7,r8,r9⟩:=state_ok q3
 refine ⟨by omega,by omega,by omega,⟨by omega,by omega⟩,by omega,fun i=>?_,by omega⟩
 by_cases hi:i < c.past.length
 · obtain ⟨r1,r2,r3,r4,r5,r6,r7,r8,r9⟩:=state_ok (q5 i hi)
   exact ⟨by omega,by omega⟩
 · have:c.past.getD i default=default:=by simp [List.getD,List.getElem?_eq_none (Nat.le_of_not_lt hi)]
   rw [this];exact ⟨by decide,by decide⟩
theorem def_small (j:Nat):((default:Chain).past.getD j default).small:=by
 have h:(default:State).small:=⟨by decide,by decide⟩
 have e:(default:Chain).past.getD j default=default:=by
   have:(default:Chain).past=[]:=rfl
   rw [this];simp [List.getD]
 rw [e];exact h
theorem def_small2:(default:Chain).small:=⟨by decide,by decide,by decide,⟨by decide,by decide⟩,by decide,def_small,by decide⟩
theorem two_small {a b:Chain} (h1:a.ok=true) (h2:b.ok=true):∀ i,(([a,b]:List Chain).getD i default).small
 | 0=>ok_small h1
 | 1=>ok_small h2
 | i+2=>def_small2
end Go.Hw
namespace Go.Hw
open Go.Proofs
theorem BankNew_ok:Call Try.prog 141 [] [] 0 (.o (.g (bankA Bank.new 0))) (bankH Bank.new 0) 2:=by
 refine vO tok Try.func141 rfl rfl Try.ntmps141 Try.results141 rfl (by decide) (fun cx hnt hk0=>?_)
 repeat' (first|refine vS fun K hK=>?_|refine hK _ ?_;clear hK K|((first|refine vR tok (by rw [hnt];rfl) ?_|refine vT ?_|(refine vF [] ?_))<;>(try simp only [go_sem,qa,qb,qc,qd,qe,qf,qg,qh,qi,qj,qk,ql,qm,qn,qo,qp,qq,qr,qs,reduceIte,reduceCtorEq,Bank.new])))
theorem StateNew_ok:Call Try.prog 117 [] [] 0 (.o (.g (stateA State.new 0))) (stateH State.new 0) 4:=by
 refine vO tok Try.func117 rfl rfl Try.ntmps117 Try.results117 rfl (by decide) (fun cx hnt hk0=>?_)
 repeat' (first|refine vS fun K hK=>?_|refine hK _ ?_;clear hK K|((first|refine vR tok (by rw [hnt];rfl) ?_|refine vT ?_|(refine vF [] ?_))<;>(try simp only [go_sem,qa,qb,qc,qd,qe,qf,qg,qh,qi,qj,qk,ql,qm,qn,qo,qp,qq,qr,qs,reduceIte,reduceCtorEq,State.new])))
theorem l1Copy_ok (b:Bank) (h1:b.own.length≤1000) (h2:b.notes.length≤1000):Call Try.prog 59 [b.av] [] 0 (.o (.g (bankA b 0))) (bankH b 0) 2:=by
 refine vO tok Try.func59 rfl rfl Try.ntmps59 Try.results59 rfl (by decide) (fun cx hnt hk0=>?_)

 repeat' (first|refine vS fun K hK=>?_|refine hK _ ?_;clear hK K|((first|refine vR tok (by rw [hnt];rfl) ?_|refine vT ?_|refine vF [] ?_|(refine AWp.draw (id:=1) tok mixed (.tak 1 (.tak 2 (.tak 5 (.tak 6 (.tak 8 (.tak 9 (.all (.cons 0 (.all (.cons 3 (.all (.cons 4 (.all (.cons 7 (.all (.cons 10 (.all (.cons 11 .done .nil)) .nil)) .nil)) .nil)) (.cons 4 (.all (.cons 3 (.all (.cons 7 (.all (.cons 10 (.all (.cons 11 .done .nil)) .nil)) .nil)) .nil)) .nil))) (.cons 4 (.all (.cons 0 (.all (.cons 3 (.all (.cons 7 (.all (.cons 10 (.all (.cons 11 .done .nil)) .nil)) .nil)) .nil)) .nil)) .nil))))))))) [0] [1,2] (by kernel_rfl) (by kernel_rfl) (by rw [hnt];rfl) ?_))<;>(try simp only [go_sem,qa,qb,qc,qd,qe,qf,qg,qh,qi,qj,qk,ql,qm,qn,qo,qp,qq,qr,qs,reduceIte,reduceCtorEq]))|refine aE ?_ fun hp=>?_|refine And.intro ?_ ?_|clear hK K)
 all_goals try omega
theorem l3Copy_ok (s:State) (h1:s.sent.length≤1000) (h2:s.live.length≤1000) (h3:s.back.length≤1000) (h4:s.got.length≤1000):Call Try.prog 58 [s.av] [] 0 (.o (.g (stateA s 0))) (stateH s 0) 4:=by
 refine vO tok Try.func58 rfl rfl Try.ntmps58 Try.results58 rfl (by decide) (fun cx hnt hk0=>?_)
 repeat' (first|refine vS fun K hK=>?_|refine hK _ ?_;clear hK K|((first|refine vR tok (by rw [hnt];rfl) ?_|refine vT ?_|(refine vF [] ?_))<;>(try simp only [go_sem,qa,qb,qc,qd,qe,qf,qg,qh,qi,qj,qk,ql,qm,qn,qo,qp,qq,qr,qs,reduceIte,reduceCtorEq]))|refine aE ?_ fun hp=>?_|clear hK K)
 all_goals try omega
theorem l1List_own (b:Bank) (kind:Int) (hk:kind=1):Call Try.prog 119 [.g (bankA b 0),I kind] (bankH b 0) 2 (.o (.c (.sl 0 1 0 b.own.length))) (bankH b 0) 2:=by
 refine vO tok Try.func119 rfl rfl Try.ntmps119 Try.results119 rfl (by decide) (fun cx hnt hk0=>?_)
 repeat' (first|refine vS fun K hK=>?_|refine hK _ ?_;clear hK K|refine hX ?_;clear hX hY X Y|((first|refine vR tok (by rw [hnt];rfl) ?_|refine vC fun X Y hX hY=>?_|refine vT ?_|refine vF [] ?_|(apply gC<;>intro hq<;>(try simp only [nT,nF,n1,n0] at hq)<;>(have hb:=hq)<;>(try simp only [dT,dF,eT,eF] at hb)<;>first|(exfalso;omega)|((try simp only [hq]);clear hq)))<;>(try simp only [go_sem,qa,qb,qc,qd,qe,qf,qg,qh,qi,qj,qk,ql,qm,qn,qo,qp,qq,qr,qs,reduceIte,reduceCtorEq])))
 all_goals try (exfalso;omega)
theorem l1List_note (b:Bank) (kind:Int) (hk:kind ≠ 1):Call Try.prog 119 [.g (bankA b 0),I kind] (bankH b 0) 2 (.o (.c (.sl 1 1 0 b.notes.length))) (bankH b 0) 2:=by
 refine vO tok Try.func119 rfl rfl Try.ntmps119 Try.results119 rfl (by decide) (fun cx hnt hk0=>?_)
 repeat' (first|refine vS fun K hK=>?_|refine hK _ ?_;clear hK K|refine hY ?_;clear hX hY X Y|((first|refine vR tok (by rw [hnt];rfl) ?_|refine vC fun X Y hX hY=>?_|refine vK ?_|refine vT ?_|refine vF [] ?_|(apply gC<;>intro hq<;>(try simp only [nT,nF,n1,n0] at hq)<;>(have hb:=hq)<;>(try simp only [dT,dF,eT,eF] at hb)<;>first|(exfalso;omega)|((try simp only [hq]);clear hq)))<;>(try simp only [go_sem,qa,qb,qc,qd,qe,qf,qg,qh,qi,qj,qk,ql,qm,qn,qo,qp,qq,qr,qs,reduceIte,reduceCtorEq])))
 all_goals try (exfalso;omega)
theorem l1List_tree (b:Bank) (kind:Int):Call Try.prog 119 [b.av,I kind] [] 0 (.o (.c (.t (intsT (b.list kind))))) [] 0:=by
 refine vO tok Try.func119 rfl rfl Try.ntmps119 Try.results119 rfl (by decide) (fun cx hnt hk0=>?_)
 by_cases hk1:kind=1
 · have e:b.list kind=b.own:=by simp [Bank.list,hk1]
   rw [e]
   repeat' (first|refine vS fun K hK=>?_|refine hK _ ?_;clear hK K|refine hX ?_;clear hX hY X Y|((first|refine vR tok (by rw [hnt];rfl) ?_|refine vC fun X Y hX hY=>?_|refine vT ?_|refine vF [] ?_|(apply gC<;>intro hq<;>(try simp only [nT,nF,n1,n0] at hq)<;>(have hb:=hq)<;>(try simp only [dT,dF,eT,eF] at hb)<;>first|(exfalso;omega)|((try simp only [hq]);clear hq)))<;>(try simp only [go_sem,qa,qb,qc,qd,qe,qf,qg,qh,qi,qj,qk,ql,qm,qn,qo,qp,qq,qr,qs,reduceIte,reduceCtorEq])))
   all_goals try (exfalso;omega)
 · have e:b.list kind=b.notes:=by simp [Bank.list,hk1]
   rw [e]
   repeat' (first|refine vS fun K hK=>?_|refine hK _ ?_;clear hK K|refine hY ?_;clear hX hY X Y|((first|refine vR tok (by rw [hnt];rfl) ?_|refine vC fun X Y hX hY=>?_|refine vK ?_|refine vT ?_|refine vF [] ?_|(apply gC<;>intro hq<;>(try simp only [nT,nF,n1,n0] at hq)<;>(have hb:=hq)<;>(try simp only [dT,dF,eT,eF] at hb)<;>first|(exfalso;omega)|((try simp only [hq]);clear hq)))<;>(try simp only [go_sem,qa,qb,qc,qd,qe,qf,qg,qh,qi,qj,qk,ql,qm,qn,qo,qp,qq,qr,qs,reduceIte,reduceCtorEq])))
   all_goals try (exfalso;omega)
theorem l1Away_ok (b:Bank) (kind src sum:Int) (hb:b.ok=true) (hs:In src 1 3=true) (h0:0≤sum) (h9:sum≤1000) :
   Call Try.prog 133 [.g (bankA b 0),I kind,I src,I sum] (bankH b 0) 2 (.tup [.g (bankA (b.away kind src sum) 2),BB (b.awayB kind src sum)]) (bankH (b.away kind src sum) 2) 4:=by
 obtain ⟨q1,q2,q3,q4,q5⟩:=bank_ok hb
 have q6:=parts_len q1
 have q7:=parts_len q2
 have q8:=parts_get q1 (src - 1).toNat
 have q9:=parts_get q2 (src - 1).toNat
 have q10:=parts_all q1
 rw [In_iff] at hs
 unfold Bank.away
 by_cases hd:kind=1
 · cases hA:b.awayB kind src sum
   · have hA2:b.own.getD (src - 1).toNat 0 < sum:=by simpa [-List.getD_eq_getElem?_getD,Bank.awayB,Bank.at,Bank.list,hd] using hA
     refine vO tok Try.func133 rfl rfl Try.ntmps133 Try.results133 rfl (by decide) (fun cx hnt hk0=>?_)
     repeat' (first|refine vS fun K hK=>?_|refine hK _ ?_;clear hK K|refine hX ?_;clear hX hY X Y|((first|refine vR tok (by rw [hnt];rfl) ?_|refine vC fun X Y hX hY=>?_|refine vT ?_|refine vF [] ?_|refine runS_c [_,_] (l1List_own b kind hd) rfl ?_ ?_ ?_|(apply gC<;>intro hq<;>(try simp only [nT,nF,n1,n0] at hq)<;>(have hb:=hq)<;>(try simp only [dT,dF,eT,eF] at hb)<;>first|(exfalso;omega)|((try simp only [hq]);clear hq)))<;>(try simp only [go_sem,qa,qb,qc,qd,qe,qf,qg,qh,qi,qj,qk,ql,qm,qn,qo,qp,qq,qr,qs,reduceIte,reduceCtorEq,Bool.false_eq_true]))|refine Fits.of ?_ ?_|(refine aL ?_ (fun hp=>?_)<;>((try simp only [rowSet_fI hp,rowSet_fI2 hp]);(try simp only [rowSet_fB hp])))|refine aE ?_ fun hp=>?_|refine aC ?_ fun hp=>?_|refine And.intro ?_ ?_|clear hK K)
     all_goals omega
   · have hA2:sum≤b.own.getD (src - 1).toNat 0:=by simpa [-List.getD_eq_getElem?_getD,Bank.awayB,Bank.at,Bank.list,hd] using hA
     refine vO tok Try.func133 rfl rfl Try.ntmps133 Try.results133 rfl (by decide) (fun cx hnt hk0=>?_)
     repeat' (first|refine vS fun K hK=>?_|refine hK _ ?_;clear hK K|refine hX ?_;clear hX hY X Y|refine hY ?_;clear hX hY X Y|((first|refine vR tok (by rw [hnt];rfl) ?_|refine vC fun X Y hX hY=>?_|refine vK ?_|refine vT ?_|refine vF [] ?_|refine runS_c [_,_] (l1List_own b kind hd) rfl ?_ ?_ ?_|(apply gC<;>intro hq<;>(try simp only [nT,nF,n1,n0] at hq)<;>(have hb:=hq)<;>(try simp only [dT,dF,eT,eF] at hb)<;>first|(exfalso;omega)|((try simp only [hq]);clear hq)))<;>(try simp only [go_sem,qa,qb,qc,qd,qe,qf,qg,qh,qi,qj,qk,ql,qm,qn,qo,qp,qq,qr,qs,reduceIte,reduceCtorEq,Bank.awayD,Bank.dec,Bank.put,Bank.list,Bank.at,if_pos hd]))|refine Fits.of ?_ ?_|(refine aL ?_ (fun hp=>?_)<;>((try simp only [rowSet_fI hp,rowSet_fI2 hp]);(try simp only [rowSet_fB hp])))|refine aE ?_ fun hp=>?_|refine aC ?_ fun hp=>?_|refine And.intro ?_ ?_|clear hK K)
     all_goals omega
 · cases hA:b.awayB kind src sum
   · have hA2:b.notes.getD (src - 1).toNat 0 < sum:=by simpa [-List.getD_eq_getElem?_getD,Bank.awayB,Bank.at,Bank.list,hd] using hA
     refine vO tok Try.func133 rfl rfl Try.ntmps133 Try.results133 rfl (by decide) (fun cx hnt hk0=>?_)
     repeat' (first|refine vS fun K hK=>?_|refine hK _ ?_;clear hK K|refine hX ?_;clear hX hY X Y|((first|refine vR tok (by rw [hnt];rfl) ?_|refine vC fun X Y hX hY=>?_|refine vT ?_|refine vF [] ?_|refine runS_c [_,_] (l1List_note b kind hd) rfl ?_ ?_ ?_|(apply gC<;>intro hq<;>(try simp only [nT,nF,n1,n0] at hq)<;>(have hb:=hq)<;>(try simp only [dT,dF,eT,eF] at hb)<;>first|(exfalso;omega)|((try simp only [hq]);clear hq)))<;>(try simp only [go_sem,qa,qb,qc,qd,qe,qf,qg,qh,qi,qj,qk,ql,qm,qn,qo,qp,qq,qr,qs,reduceIte,reduceCtorEq,Bool.false_eq_true]))|refine Fits.of ?_ ?_|(refine aL ?_ (fun hp=>?_)<;>((try simp only [rowSet_fI hp,rowSet_fI2 hp]);(try simp only [rowSet_fB hp])))|refine aE ?_ fun hp=>?_|refine aC ?_ fun hp=>?_|refine And.intro ?_ ?_|clear hK K)
     all_goals omega
   · have hA2:sum≤b.notes.getD (src - 1).toNat 0:=by simpa [-List.getD_eq_getElem?_getD,Bank.awayB,Bank.at,Bank.list,hd] using hA
     refine vO tok Try.func133 rfl rfl Try.ntmps133 Try.results133 rfl (by decide) (fun cx hnt hk0=>?_)
     repeat' (first|refine vS fun K hK=>?_|refine hK _ ?_;clear hK K|refine hY ?_;clear hX hY X Y|((first|refine vR tok (by rw [hnt];rfl) ?_|refine vC fun X Y hX hY=>?_|refine vK ?_|refine vT ?_|refine vF [] ?_|refine runS_c [_,_] (l1List_note b kind hd) rfl ?_ ?_ ?_|(apply gC<;>intro hq<;>(try simp only [nT,nF,n1,n0] at hq)<;>(have hb:=hq)<;>(try simp only [dT,dF,eT,eF] at hb)<;>first|(exfalso;omega)|((try simp only [hq]);clear hq)))<;>(try simp only [go_sem,qa,qb,qc,qd,qe,qf,qg,qh,qi,qj,qk,ql,qm,qn,qo,qp,qq,qr,qs,reduceIte,reduceCtorEq,Bank.awayD,Bank.dec,Bank.put,Bank.list,Bank.at,if_neg hd]))|refine Fits.of ?_ ?_|(refine aL ?_ (fun hp=>?_)<;>((try simp only [rowSet_fI hp,rowSet_fI2 hp]);(try simp only [rowSet_fB hp])))|refine aE ?_ fun hp=>?_|refine aC ?_ fun hp=>?_|refine And.intro ?_ ?_|clear hK K)
     all_goals omega
theorem l1Away_no (b:Bank) (kind src sum:Int) (ok1:b.ok=true) (hs:In src 1 3=true) (hA:b.awayB kind src sum=false) :
   Call Try.prog 133 [.g (bankA b 0),I kind,I src,I sum] (bankH b 0) 2 (.tup [.g (bankA b 0),BB false]) (bankH b 0) 2:=by
 obtain ⟨q1,q2,q3,q4,q5⟩:=bank_ok ok1
 have q6:=parts_len q1
 have q7:=parts_len q2
 rw [In_iff] at hs
 by_cases hd:kind=1
 · have hA2:b.own.getD (src - 1).toNat 0 < sum:=by simpa [-List.getD_eq_getElem?_getD,Bank.awayB,Bank.at,Bank.list,hd] using hA
   refine vO tok Try.func133 rfl rfl Try.ntmps133 Try.results133 rfl (by decide) (fun cx hnt hk0=>?_)
   repeat' (first|refine vS fun K hK=>?_|refine hK _ ?_;clear hK K|refine hX ?_;clear hX hY X Y|((first|refine vR tok (by rw [hnt];rfl) ?_|refine vC fun X Y hX hY=>?_|refine vT ?_|refine vF [] ?_|refine runS_c [_,_] (l1List_own b kind hd) rfl ?_ ?_ ?_|(apply gC<;>intro hq<;>(try simp only [nT,nF,n1,n0] at hq)<;>(have hb:=hq)<;>(try simp only [dT,dF,eT,eF] at hb)<;>first|(exfalso;omega)|((try simp only [hq]);clear hq)))<;>(try simp only [go_sem,qa,qb,qc,qd,qe,qf,qg,qh,qi,qj,qk,ql,qm,qn,qo,qp,qq,qr,qs,reduceIte,reduceCtorEq]))|refine Fits.of ?_ ?_|(refine aL ?_ (fun hp=>?_)<;>((try simp only [rowSet_fI hp,rowSet_fI2 hp]);(try simp only [rowSet_fB hp])))|refine aE ?_ fun hp=>?_|refine aC ?_ fun hp=>?_|refine And.intro ?_ ?_|clear hK K)
   all_goals omega
 · have hA2:b.notes.getD (src - 1).toNat 0 < sum:=by simpa [-List.getD_eq_getElem?_getD,Bank.awayB,Bank.at,Bank.list,hd] using hA
   refine vO tok Try.func133 rfl rfl Try.ntmps133 Try.results133 rfl (by decide) (fun cx hnt hk0=>?_)
   repeat' (first|refine vS fun K hK=>?_|refine hK _ ?_;clear hK K|refine hX ?_;clear hX hY X Y|((first|refine vR tok (by rw [hnt];rfl) ?_|refine vC fun X Y hX hY=>?_|refine vT ?_|refine vF [] ?_|refine runS_c [_,_] (l1List_note b kind hd) rfl ?_ ?_ ?_|(apply gC<;>intro hq<;>(try simp only [nT,nF,n1,n0] at hq)<;>(have hb:=hq)<;>(try simp only [dT,dF,eT,eF] at hb)<;>first|(exfalso;omega)|((try simp only [hq]);clear hq)))<;>(try simp only [go_sem,qa,qb,qc,qd,qe,qf,qg,qh,qi,qj,qk,ql,qm,qn,qo,qp,qq,qr,qs,reduceIte,reduceCtorEq]))|refine Fits.of ?_ ?_|(refine aL ?_ (fun hp=>?_)<;>((try simp only [rowSet_fI hp,rowSet_fI2 hp]);(try simp only [rowSet_fB hp])))|refine aE ?_ fun hp=>?_|refine aC ?_ fun hp=>?_|refine And.intro ?_ ?_|clear hK K)
   all_goals omega
theorem l1Back_ok (b:Bank) (kind dst sum:Int) (hb:b.ok=true) (hs:In dst 1 3=true) (hk:In kind 1 2=true) (h0:0≤sum) (h9:sum≤1000) :
   Call Try.prog 89 [.g (bankA b 0),I kind,I dst,I sum] (bankH b 0) 2 (.tup [.g (bankA (b.back kind dst sum) 2),BB (b.backB kind dst sum)]) (bankH (b.back kind dst sum) 2) 4:=by
 obtain ⟨q1,q2,q3,q4,q5⟩:=bank_ok hb
 have q6:=parts_len q1
 have q7:=parts_len q2
 have q8:=parts_get q1 (dst - 1).toNat
 have q9:=parts_get q2 (dst - 1).toNat
 have q10:=parts_all q1
 have q11:=parts_all q2
 rw [In_iff] at hs hk
 unfold Bank.back
 by_cases hd:kind=1
 · cases hA:b.backB kind dst sum
   · have hA2:b.locked < sum:=by simpa [Bank.backB,hd] using hA
     clear hk
     refine vO tok Try.func89 rfl rfl Try.ntmps89 Try.results89 rfl (by decide) (fun cx hnt hk0=>?_)
     repeat' (first|refine vS fun K hK=>?_|refine hK _ ?_;clear hK K|refine hX ?_;clear hX hY X Y|((first|refine vR tok (by rw [hnt];rfl) ?_|refine vC fun X Y hX hY=>?_|refine vT ?_|refine vF [] ?_|(apply gR<;>intro hq<;>(try simp only [nT,nF,n1,n0] at hq)<;>(have hb:=hq)<;>(try simp only [dT,dF,eT,eF] at hb)<;>first|(exfalso;omega)|((try simp only [hq]);clear hq)))<;>(try simp only [go_sem,qa,qb,qc,qd,qe,qf,qg,qh,qi,qj,qk,ql,qm,qn,qo,qp,qq,qr,qs,reduceIte,reduceCtorEq,Bool.false_eq_true])))
     all_goals try omega
   · have hA2:sum≤b.locked:=by simpa [Bank.backB,hd] using hA
     clear hk
     refine vO tok Try.func89 rfl rfl Try.ntmps89 Try.results89 rfl (by decide) (fun cx hnt hk0=>?_)
     repeat' (first|refine vS fun K hK=>?_|refine hK _ ?_;clear hK K|refine hX ?_;clear hX hY X Y|refine hY ?_;clear hX hY X Y|((first|refine vR tok (by rw [hnt];rfl) ?_|refine vC fun X Y hX hY=>?_|refine vK ?_|refine vT ?_|refine vF [] ?_|refine runS_c [_,_] (l1List_own b kind hd) rfl ?_ ?_ ?_|((first|apply gR|apply gC)<;>intro hq<;>(try simp only [nT,nF,n1,n0] at hq)<;>(have hb:=hq)<;>(try simp only [dT,dF,eT,eF] at hb)<;>first|(exfalso;omega)|((try simp only [hq]);clear hq)))<;>(try simp only [go_sem,qa,qb,qc,qd,qe,qf,qg,qh,qi,qj,qk,ql,qm,qn,qo,qp,qq,qr,qs,reduceIte,reduceCtorEq,Bank.backD,Bank.add,Bank.put,Bank.list,Bank.at,if_pos hd]))|refine Fits.of ?_ ?_|(refine aL ?_ (fun hp=>?_)<;>((try simp only [rowSet_fI hp,rowSet_fI2 hp]);(try simp only [rowSet_fB hp])))|refine aE ?_ fun hp=>?_|refine aC ?_ fun hp=>?_|refine And.intro ?_ ?_|clear hK K)
     all_goals try omega
 · have hd2:kind=2:=by omega
   cases hA:b.backB kind dst sum
   · have hA2:30 < isum b.notes+sum:=by simpa [Bank.backB,hd2] using hA
     clear hk
     refine vO tok Try.func89 rfl rfl Try.ntmps89 Try.results89 rfl (by decide) (fun cx hnt hk0=>?_)
     repeat' (first|refine vS fun K hK=>?_|refine hK _ ?_;clear hK K|refine hX ?_;clear hX hY X Y|((first|refine vR tok (by rw [hnt];rfl) ?_|refine vC fun X Y hX hY=>?_|refine vT ?_|refine vF [] ?_|refine runS_v [] (l1All_ok b.notes q2) ?_ ?_ ?_ ?_ ?_|((first|apply gR|apply gC)<;>intro hq<;>(try simp only [nT,nF,n1,n0] at hq)<;>(have hb:=hq)<;>(try simp only [dT,dF,eT,eF] at hb)<;>first|(exfalso;omega)|((try simp only [hq]);clear hq)))<;>(try simp only [go_sem,qa,qb,qc,qd,qe,qf,qg,qh,qi,qj,qk,ql,qm,qn,qo,qp,qq,qr,qs,reduceIte,reduceCtorEq,Bool.false_eq_true]))|refine Fits.of ?_ ?_|refine And.intro ?_ ?_|clear hK K)
     all_goals try omega
   · have hA2:isum b.notes+sum≤30:=by simpa [Bank.backB,hd2] using hA
     clear hk
     refine vO tok Try.func89 rfl rfl Try.ntmps89 Try.results89 rfl (by decide) (fun cx hnt hk0=>?_)
     repeat' (first|refine vS fun K hK=>?_|refine hK _ ?_;clear hK K|refine hY ?_;clear hX hY X Y|((first|refine vR tok (by rw [hnt];rfl) ?_|refine vC fun X Y hX hY=>?_|refine vK ?_|refine vT ?_|refine vF [] ?_|refine runS_c [_,_] (l1List_note b kind hd) rfl ?_ ?_ ?_|refine runS_v [] (l1All_ok b.notes q2) ?_ ?_ ?_ ?_ ?_|((first|apply gR|apply gC)<;>intro hq<;>(try simp only [nT,nF,n1,n0] at hq)<;>(have hb:=hq)<;>(try simp only [dT,dF,eT,eF] at hb)<;>first|(exfalso;omega)|((try simp only [hq]);clear hq)))<;>(try simp only [go_sem,qa,qb,qc,qd,qe,qf,qg,qh,qi,qj,qk,ql,qm,qn,qo,qp,qq,qr,qs,reduceIte,reduceCtorEq,Bank.backD,Bank.add,Bank.put,Bank.list,Bank.at,if_neg hd]))|refine Fits.of ?_ ?_|(refine aL ?_ (fun hp=>?_)<;>((try simp only [rowSet_fI hp,rowSet_fI2 hp]);(try simp only [rowSet_fB hp])))|refine aE ?_ fun hp=>?_|refine aC ?_ fun hp=>?_|refine And.intro ?_ ?_|clear hK K)
     all_goals try omega
theorem l1Back_no (b:Bank) (kind dst sum:Int) (ok1:b.ok=true) (hs:In dst 1 3=true) (hA:b.backB kind dst sum=false) (h0:0≤sum) (h9:sum≤1000) :
   Call Try.prog 89 [.g (bankA b 0),I kind,I dst,I sum] (bankH b 0) 2 (.tup [.g (bankA b 0),BB false]) (bankH b 0) 2:=by
 obtain ⟨q1,q2,q3,q4,q5⟩:=bank_ok ok1
 have q6:=parts_len q1
 have q7:=parts_len q2
 have q11:=parts_all q2
 rw [In_iff] at hs
 by_cases hd:kind=1
 · have hA2:b.locked < sum:=by simpa [Bank.backB,hd] using hA
   refine vO tok Try.func89 rfl rfl Try.ntmps89 Try.results89 rfl (by decide) (fun cx hnt hk0=>?_)
   repeat' (first|refine vS fun K hK=>?_|refine hK _ ?_;clear hK K|refine hX ?_;clear hX hY X Y|((first|refine vR tok (by rw [hnt];rfl) ?_|refine vC fun X Y hX hY=>?_|refine vT ?_|refine vF [] ?_|(apply gR<;>intro hq<;>(try simp only [nT,nF,n1,n0] at hq)<;>(have hb:=hq)<;>(try simp only [dT,dF,eT,eF] at hb)<;>first|(exfalso;omega)|((try simp only [hq]);clear hq)))<;>(try simp only [go_sem,qa,qb,qc,qd,qe,qf,qg,qh,qi,qj,qk,ql,qm,qn,qo,qp,qq,qr,qs,reduceIte,reduceCtorEq])))
   all_goals omega
 · have hd2:kind=2:=by
     by_cases h:kind=2
     · exact h
     · simp [Bank.backB,hd,h] at hA
   have hA2:30 < isum b.notes+sum:=by simpa [Bank.backB,hd2] using hA
   refine vO tok Try.func89 rfl rfl Try.ntmps89 Try.results89 rfl (by decide) (fun cx hnt hk0=>?_)
   repeat' (first|refine vS fun K hK=>?_|refine hK _ ?_;clear hK K|refine hX ?_;clear hX hY X Y|((first|refine vR tok (by rw [hnt];rfl) ?_|refine vC fun X Y hX hY=>?_|refine vT ?_|refine vF [] ?_|refine runS_v [] (l1All_ok b.notes q2) ?_ ?_ ?_ ?_ ?_|((first|apply gR|apply gC)<;>intro hq<;>(try simp only [nT,nF,n1,n0] at hq)<;>(have hb:=hq)<;>(try simp only [dT,dF,eT,eF] at hb)<;>first|(exfalso;omega)|((try simp only [hq]);clear hq)))<;>(try simp only [go_sem,qa,qb,qc,qd,qe,qf,qg,qh,qi,qj,qk,ql,qm,qn,qo,qp,qq,qr,qs,reduceIte,reduceCtorEq]))|refine Fits.of ?_ ?_|refine And.intro ?_ ?_|clear hK K)
   all_goals omega
def payD (b:Bank) (p:Packet):Bank:=if payB b p then b.backD (otherK p.kind) p.dst p.sum else b
def payN (b:Bank) (p:Packet):Int:=if payB b p then 1 else 2
theorem packet_ok {p:Packet} (h:p.ok=true):(1≤p.seq∧p.seq≤8)∧(1≤p.kind∧p.kind≤2)∧(1≤p.src∧p.src≤3)∧(0≤p.dst∧p.dst≤3)∧(1≤p.sum∧p.sum≤9)∧(1≤p.till∧p.till≤90)∧(1≤p.ver∧p.ver≤9):=by
 simpa only [Packet.ok,Bool.and_eq_true,In_iff] using h
theorem l13Pay_ok (b:Bank) (p:Packet) (ok1:b.ok=true) (ok2:p.ok=true):Call Try.prog 72 [.g (bankA b 0),p.av] (bankH b 0) 2 (.tup [.g (bankA (payD b p) 2),I (payN b p)]) (bankH (payD b p) 2) 4:=by
 obtain ⟨p1,p2,p3,p4,p5,p6,p7⟩:=packet_ok ok2
 by_cases h0:p.dst=0
 · have e:payB b p=false:=by simp [payB,h0]
   have e1:payD b p=b:=by simp [payD,e]
   have e2:payN b p=2:=by simp [payN,e]
   rw [e1,e2]
   refine vO tok Try.func72 rfl rfl Try.ntmps72 Try.results72 rfl (by decide) (fun cx hnt hk0=>?_)
   repeat' (first|refine vS fun K hK=>?_|refine hK _ ?_;clear hK K|refine hX ?_;clear hX hY X Y|refine hY ?_;clear hX hY X Y|((first|refine vR tok (by rw [hnt];rfl) ?_|refine vC fun X Y hX hY=>?_|refine vK ?_|refine vT ?_|refine vF [] ?_|(apply gC<;>intro hq<;>(try simp only [nT,nF,n1,n0] at hq)<;>(have hb:=hq)<;>(try simp only [dT,dF,eT,eF] at hb)<;>first|(exfalso;omega)|((try simp only [hq]);clear hq)))<;>(try simp only [go_sem,qa,qb,qc,qd,qe,qf,qg,qh,qi,qj,qk,ql,qm,qn,qo,qp,qq,qr,qs,reduceIte,reduceCtorEq])))
 · have hk:In (otherK p.kind) 1 2=true:=by rw [In_iff];unfold otherK;split<;>omega
   have hs:In p.dst 1 3=true:=by rw [In_iff];omega
   have e1:payD b p=b.back (otherK p.kind) p.dst p.sum:=by simp [payD,payB,h0,Bank.back]
   have e2:payN b p=if b.backB (otherK p.kind) p.dst p.sum then 1 else 2:=by simp [payN,payB,h0]
   rw [e1,e2]
   by_cases h2:p.kind=2
   · have e3:otherK p.kind=1:=by simp [otherK,h2]
     rw [e3] at hk ⊢
     cases e4:b.backB 1 p.dst p.sum
     · have e5:b.back 1 p.dst p.sum=b:=by simp [Bank.back,e4]
       refine vO tok Try.func72 rfl rfl Try.ntmps72 Try.results72 rfl (by decide) (fun cx hnt hk0=>?_)
       repeat' (first|refine vS fun K hK=>?_|refine hK _ ?_;clear hK K|refine hX ?_;clear hX hY X Y|refine hY ?_;clear hX hY X Y|((first|refine vR tok (by rw [hnt];rfl) ?_|refine vC fun X Y hX hY=>?_|refine vK ?_|refine vT ?_|refine vF [] ?_|(refine runS_c [_,_] (l1Back_no b 1 p.dst p.sum ok1 hs e4 (by omega) (by omega)) rfl ?_ ?_ ?_)|(apply gC<;>intro hq<;>(try simp only [nT,nF,n1,n0] at hq)<;>(have hb:=hq)<;>(try simp only [dT,dF,eT,eF] at hb)<;>first|(exfalso;omega)|((try simp only [hq]);clear hq)))<;>(try simp only [go_sem,qa,qb,qc,qd,qe,qf,qg,qh,qi,qj,qk,ql,qm,qn,qo,qp,qq,qr,qs,reduceIte,reduceCtorEq,e4,e5,Bool.false_eq_true])))

     · refine vO tok Try.func72 rfl rfl Try.ntmps72 Try.results72 rfl (by decide) (fun cx hnt hk0=>?_)
       repeat' (first|refine vS fun K hK=>?_|refine hK _ ?_;clear hK K|refine hX ?_;clear hX hY X Y|refine hY ?_;clear hX hY X Y|((first|refine vR tok (by rw [hnt];rfl) ?_|refine vC fun X Y hX hY=>?_|refine vK ?_|refine vT ?_|refine vF [] ?_|(refine runS_c [_,_] (l1Back_ok b 1 p.dst p.sum ok1 hs hk (by omega) (by omega)) rfl ?_ ?_ ?_)|(apply gC<;>intro hq<;>(try simp only [nT,nF,n1,n0] at hq)<;>(have hb:=hq)<;>(try simp only [dT,dF,eT,eF] at hb)<;>first|(exfalso;omega)|((try simp only [hq]);clear hq)))<;>(try simp only [go_sem,qa,qb,qc,qd,qe,qf,qg,qh,qi,qj,qk,ql,qm,qn,qo,qp,qq,qr,qs,reduceIte,reduceCtorEq,e4])))

   · have e3:otherK p.kind=2:=by simp [otherK,h2]
     rw [e3] at hk ⊢
     cases e4:b.backB 2 p.dst p.sum
     · have e5:b.back 2 p.dst p.sum=b:=by simp [Bank.back,e4]
       refine vO tok Try.func72 rfl rfl Try.ntmps72 Try.results72 rfl (by decide) (fun cx hnt hk0=>?_)
       repeat' (first|refine vS fun K hK=>?_|refine hK _ ?_;clear hK K|refine hX ?_;clear hX hY X Y|refine hY ?_;clear hX hY X Y|((first|refine vR tok (by rw [hnt];rfl) ?_|refine vC fun X Y hX hY=>?_|refine vK ?_|refine vT ?_|refine vF [] ?_|(refine runS_c [_,_] (l1Back_no b 2 p.dst p.sum ok1 hs e4 (by omega) (by omega)) rfl ?_ ?_ ?_)|(apply gC<;>intro hq<;>(try simp only [nT,nF,n1,n0] at hq)<;>(have hb:=hq)<;>(try simp only [dT,dF,eT,eF] at hb)<;>first|(exfalso;omega)|((try simp only [hq]);clear hq)))<;>(try simp only [go_sem,qa,qb,qc,qd,qe,qf,qg,qh,qi,qj,qk,ql,qm,qn,qo,qp,qq,qr,qs,reduceIte,reduceCtorEq,e4,e5,Bool.false_eq_true])))

     · refine vO tok Try.func72 rfl rfl Try.ntmps72 Try.results72 rfl (by decide) (fun cx hnt hk0=>?_)
       repeat' (first|refine vS fun K hK=>?_|refine hK _ ?_;clear hK K|refine hY ?_;clear hX hY X Y|((first|refine vR tok (by rw [hnt];rfl) ?_|refine vC fun X Y hX hY=>?_|refine vK ?_|refine vT ?_|refine vF [] ?_|(refine runS_c [_,_] (l1Back_ok b 2 p.dst p.sum ok1 hs hk (by omega) (by omega)) rfl ?_ ?_ ?_)|(apply gC<;>intro hq<;>(try simp only [nT,nF,n1,n0] at hq)<;>(have hb:=hq)<;>(try simp only [dT,dF,eT,eF] at hb)<;>first|(exfalso;omega)|((try simp only [hq]);clear hq)))<;>(try simp only [go_sem,qa,qb,qc,qd,qe,qf,qg,qh,qi,qj,qk,ql,qm,qn,qo,qp,qq,qr,qs,reduceIte,reduceCtorEq,e4])))

theorem l13Settle_ok (c:Chain) (seq:Int) (back:Bool) (ok1:c.ok=true) (hs:1≤seq∧seq≤c.state.sent.length):Call Try.prog 57 [.g (chainA c 0),I seq,BB back] (chainH c 0) 8 (.o (.g (chainA (c.settle seq back) 8))) (chainH (c.settle seq back) 8) 16:=by
 obtain ⟨q1,q2,q3,q4,q5,q6⟩:=chain_ok ok1
 obtain ⟨r1,r2,r3,r4,r5,r6,r7,r8,r9⟩:=state_ok q3
 obtain ⟨s1,s2,s3,s4⟩:=sentOk_iff (r7 (seq - 1).toNat (by omega))
 obtain ⟨p1,p2,p3,p4,p5,p6,p7⟩:=packet_ok s1
 have p2':In (c.sentAt seq).kind 1 2=true:=by rw [In_iff];exact p2
 have p3':In (c.sentAt seq).src 1 3=true:=by rw [In_iff];exact p3
 have p5a:0≤(c.sentAt seq).sum:=by unfold Chain.sentAt;omega
 have p5b:(c.sentAt seq).sum≤1000:=by unfold Chain.sentAt;omega
 cases back
 · refine vO tok Try.func57 rfl rfl Try.ntmps57 Try.results57 rfl (by decide) (fun cx hnt hk0=>?_)
   repeat' (first|refine vS fun K hK=>?_|refine hK _ ?_;clear hK K|refine hY ?_;clear hX hY X Y|((first|refine vR tok (by rw [hnt];rfl) ?_|refine vC fun X Y hX hY=>?_|refine vK ?_|refine vT ?_|(refine vF [] ?_))<;>(try simp only [go_sem,qa,qb,qc,qd,qe,qf,qg,qh,qi,qj,qk,ql,qm,qn,qo,qp,qq,qr,qs,reduceIte,reduceCtorEq,Chain.settle,Bool.false_eq_true]))|refine Fits.of ?_ ?_|(refine aL ?_ (fun hp=>?_)<;>((try simp only [rowSet_fI hp,rowSet_fI2 hp]);(try simp only [rowSet_fB hp])))|refine aE ?_ fun hp=>?_|refine aC ?_ fun hp=>?_|refine And.intro ?_ ?_|clear hK K)
   all_goals first|omega
 · refine vO tok Try.func57 rfl rfl Try.ntmps57 Try.results57 rfl (by decide) (fun cx hnt hk0=>?_)
   repeat' (first|refine vS fun K hK=>?_|refine hK _ ?_;clear hK K|refine hX ?_;clear hX hY X Y|((first|refine vR tok (by rw [hnt];rfl) ?_|refine vC fun X Y hX hY=>?_|refine vT ?_|refine vF [] ?_|(refine runS_c [_,_] (l1Back_ok c.bank (c.sentAt seq).kind (c.sentAt seq).src (c.sentAt seq).sum q2 p3' p2' p5a p5b) rfl ?_ ?_ ?_))<;>(try simp only [go_sem,qa,qb,qc,qd,qe,qf,qg,qh,qi,qj,qk,ql,qm,qn,qo,qp,qq,qr,qs,reduceIte,reduceCtorEq,Chain.settle,Bank.refund,Chain.sentAt]))|refine Fits.of ?_ ?_|(refine aL ?_ (fun hp=>?_)<;>((try simp only [rowSet_fI hp,rowSet_fI2 hp]);(try simp only [rowSet_fB hp])))|refine aE ?_ fun hp=>?_|refine aC ?_ fun hp=>?_|refine And.intro ?_ ?_|clear hK K)
   all_goals first|omega
theorem mine_iff {c:Chain} {seq:Int} (h:c.mine seq=true):1≤seq∧seq≤c.state.sent.length:=by
 simp only [Chain.mine,Bool.and_eq_true,In_iff] at h;exact h.1
theorem l13Tell_ok (c:Chain) (s:State) (seq:Int) (ok1:c.ok=true) (ok2:s.ok=true):Call Try.prog 38 [.g (chainA c 0),s.av,I seq] (chainH c 0) 8 (.tup [.g (chainA (c.tell s seq) 8),BB (c.tellB s seq)]) (chainH (c.tell s seq) 8) 16:=by
 obtain ⟨q1,q2,q3,q4,q5,q6⟩:=chain_ok ok1
 obtain ⟨r1,r2,r3,r4,r5,r6,r7,r8,r9⟩:=state_ok q3
 obtain ⟨t1,t2,t3,t4,t5,t6,t7,t8,t9⟩:=state_ok ok2
 cases em:c.mine seq
 · have e:c.tellB s seq=false:=by simp [Chain.tellB,em]
   have e1:c.tell s seq=c:=by simp [Chain.tell,e]
   rw [e1,e]
   refine vO tok Try.func38 rfl rfl Try.ntmps38 Try.results38 rfl (by decide) (fun cx hnt hk0=>?_)
   repeat' (first|refine vS fun K hK=>?_|refine hK _ ?_;clear hK K|refine hX ?_;clear hX hY X Y|((first|refine vR tok (by rw [hnt];rfl) ?_|refine vC fun X Y hX hY=>?_|refine vT ?_|refine vF [] ?_|(refine runS_v [] (l13Mine_ok c seq (by omega) (by omega)) ?_ ?_ ?_ ?_ ?_))<;>(try simp only [go_sem,qa,qb,qc,qd,qe,qf,qg,qh,qi,qj,qk,ql,qm,qn,qo,qp,qq,qr,qs,reduceIte,reduceCtorEq,em])))
   all_goals first|omega
 · have hs:=mine_iff em
   by_cases eg:s.got.getD (seq - 1).toNat 0=0
   · have e:c.tellB s seq=false:=by
       have eg2:s.gotAt seq=0:=eg
       simp [Chain.tellB,eg2]
     have e1:c.tell s seq=c:=by simp [Chain.tell,e]
     rw [e1,e]
     refine vO tok Try.func38 rfl rfl Try.ntmps38 Try.results38 rfl (by decide) (fun cx hnt hk0=>?_)
     repeat' (first|refine vS fun K hK=>?_|refine hK _ ?_;clear hK K|refine hX ?_;clear hX hY X Y|((first|refine vR tok (by rw [hnt];rfl) ?_|refine vC fun X Y hX hY=>?_|refine vT ?_|refine vF [] ?_|(refine runS_v [] (l13Mine_ok c seq (by omega) (by omega)) ?_ ?_ ?_ ?_ ?_)|(apply gC<;>intro hq<;>(try simp only [nT,nF,n1,n0] at hq)<;>(have hb:=hq)<;>(try simp only [dT,dF,eT,eF] at hb)<;>first|(exfalso;omega)|((try simp only [hq]);clear hq)))<;>(try simp only [go_sem,qa,qb,qc,qd,qe,qf,qg,qh,qi,qj,qk,ql,qm,qn,qo,qp,qq,qr,qs,reduceIte,reduceCtorEq,em]))|refine Fits.of ?_ ?_|refine aE ?_ fun hp=>?_|refine aC ?_ fun hp=>?_|refine And.intro ?_ ?_|clear hK K)
     all_goals first|omega
   · have e:c.tellB s seq=true:=by
       have eg2:¬ s.gotAt seq=0:=eg
       simp [Chain.tellB,eg2,em]
     have e1:c.tell s seq=c.settle seq (decide (s.got.getD (seq - 1).toNat 0=2)):=by simp only [Chain.tell,e,if_true];rfl
     rw [e1,e]
     refine vO tok Try.func38 rfl rfl Try.ntmps38 Try.results38 rfl (by decide) (fun cx hnt hk0=>?_)

     repeat' (first|refine vS fun K hK=>?_|refine hK _ ?_;clear hK K|refine hY ?_;clear hX hY X Y|((first|refine vR tok (by rw [hnt];rfl) ?_|refine vC fun X Y hX hY=>?_|refine vK ?_|refine vT ?_|refine vF [] ?_|(refine runS_v [] (l13Mine_ok c seq (by omega) (by omega)) ?_ ?_ ?_ ?_ ?_)|(refine AWp.draw (id:=3) tok mixed (.tak 0 (.tak 1 (.tak 2 (.tak 3 (.tak 4 (.tak 5 (.tak 6 (.tak 7 (.tak 8 (.all (.cons 9 (.all (.cons 10 (.tak 11 .done) .nil)) .nil))))))))))) [8,9] [2,3,4,6] (by kernel_rfl) (by kernel_rfl) (by rw [hnt];rfl) ?_)|(refine effS_c [_,_,_,_,_,_,_,_] (l13Settle_ok c seq (decide (s.got.getD (seq - 1).toNat 0=2)) ok1 hs) rfl ?_ ?_ ?_)|(apply gC<;>intro hq<;>(try simp only [nT,nF,n1,n0] at hq)<;>(have hb:=hq)<;>(try simp only [dT,dF,eT,eF] at hb)<;>first|(exfalso;omega)|((try simp only [hq]);clear hq)))<;>(try simp only [go_sem,qa,qb,qc,qd,qe,qf,qg,qh,qi,qj,qk,ql,qm,qn,qo,qp,qq,qr,qs,reduceIte,reduceCtorEq,em]))|refine Fits.of ?_ ?_|refine aE ?_ fun hp=>?_|refine aC ?_ fun hp=>?_|refine And.intro ?_ ?_|clear hK K)
     all_goals first|omega
theorem l13Late_ok (c:Chain) (s:State) (h seq:Int) (ok1:c.ok=true) (ok2:s.ok=true):Call Try.prog 24 [.g (chainA c 0),s.av,I h,I seq] (chainH c 0) 8 (.tup [.g (chainA (c.late s h seq) 8),BB (c.lateB s h seq)]) (chainH (c.late s h seq) 8) 16:=by
 obtain ⟨q1,q2,q3,q4,q5,q6⟩:=chain_ok ok1
 obtain ⟨r1,r2,r3,r4,r5,r6,r7,r8,r9⟩:=state_ok q3
 obtain ⟨t1,t2,t3,t4,t5,t6,t7,t8,t9⟩:=state_ok ok2
 cases e:c.lateB s h seq
 · have e1:c.late s h seq=c:=by simp [Chain.late,e]
   rw [e1]
   cases em:c.mine seq
   · refine vO tok Try.func24 rfl rfl Try.ntmps24 Try.results24 rfl (by decide) (fun cx hnt hk0=>?_)
     repeat' (first|refine vS fun K hK=>?_|refine hK _ ?_;clear hK K|refine hX ?_;clear hX hY X Y|((first|refine vR tok (by rw [hnt];rfl) ?_|refine vC fun X Y hX hY=>?_|refine vT ?_|refine vF [] ?_|(refine runS_v [] (l13Mine_ok c seq (by omega) (by omega)) ?_ ?_ ?_ ?_ ?_))<;>(try simp only [go_sem,qa,qb,qc,qd,qe,qf,qg,qh,qi,qj,qk,ql,qm,qn,qo,qp,qq,qr,qs,reduceIte,reduceCtorEq,em])))
     all_goals first|omega
   · have hs:=mine_iff em
     have e2:(c.state.sent.getD (seq - 1).toNat default).till≤h→s.got.getD (seq - 1).toNat 0 ≠ 0:=by
       intro h1 h2
       have h1':(c.sentAt seq).till≤h:=h1
       have h2':s.gotAt seq=0:=h2
       simp [Chain.lateB,em,h1',h2'] at e
     refine vO tok Try.func24 rfl rfl Try.ntmps24 Try.results24 rfl (by decide) (fun cx hnt hk0=>?_)
     repeat' (first|refine vS fun K hK=>?_|refine hK _ ?_;clear hK K|refine hX ?_;clear hX hY X Y|((first|refine vR tok (by rw [hnt];rfl) ?_|refine vC fun X Y hX hY=>?_|refine vT ?_|refine vF [] ?_|(refine runS_v [] (l13Mine_ok c seq (by omega) (by omega)) ?_ ?_ ?_ ?_ ?_)|((first|apply gR|apply gC)<;>intro hq<;>(try simp only [nT,nF,n1,n0] at hq)<;>(have hb:=hq)<;>(try simp only [dT,dF,eT,eF] at hb)<;>first|(exfalso;omega)|((try simp only [hq]);clear hq)))<;>(try simp only [go_sem,qa,qb,qc,qd,qe,qf,qg,qh,qi,qj,qk,ql,qm,qn,qo,qp,qq,qr,qs,reduceIte,reduceCtorEq,em]))|refine Fits.of ?_ ?_|(refine aL ?_ (fun hp=>?_)<;>((try simp only [rowSet_fI hp,rowSet_fI2 hp]);(try simp only [rowSet_fB hp])))|refine aE ?_ fun hp=>?_|refine aC ?_ fun hp=>?_|refine And.intro ?_ ?_|clear hK K)
     all_goals first|omega
 · have e1:c.late s h seq=c.settle seq true:=by simp [Chain.late,e]
   rw [e1]
   have e2:=e
   simp only [Chain.lateB,Bool.and_eq_true,decide_eq_true_eq] at e2
   obtain ⟨em,e3,e4⟩:=e2
   simp only [State.gotAt,Chain.sentAt] at e3 e4
   have hs:=mine_iff em
   refine vO tok Try.func24 rfl rfl Try.ntmps24 Try.results24 rfl (by decide) (fun cx hnt hk0=>?_)
   repeat' (first|refine vS fun K hK=>?_|refine hK _ ?_;clear hK K|refine hY ?_;clear hX hY X Y|((first|refine vR tok (by rw [hnt];rfl) ?_|refine vC fun X Y hX hY=>?_|refine vK ?_|refine vT ?_|refine vF [] ?_|(refine runS_v [] (l13Mine_ok c seq (by omega) (by omega)) ?_ ?_ ?_ ?_ ?_)|refine runS_c [_,_,_,_,_,_,_,_] (l13Settle_ok c seq true ok1 hs) rfl ?_ ?_ ?_|((first|apply gR|apply gC)<;>intro hq<;>(try simp only [nT,nF,n1,n0] at hq)<;>(have hb:=hq)<;>(try simp only [dT,dF,eT,eF] at hb)<;>first|(exfalso;omega)|((try simp only [hq]);clear hq)))<;>(try simp only [go_sem,qa,qb,qc,qd,qe,qf,qg,qh,qi,qj,qk,ql,qm,qn,qo,qp,qq,qr,qs,reduceIte,reduceCtorEq,em]))|refine Fits.of ?_ ?_|(refine aL ?_ (fun hp=>?_)<;>((try simp only [rowSet_fI hp,rowSet_fI2 hp]);(try simp only [rowSet_fB hp])))|refine aE ?_ fun hp=>?_|refine aC ?_ fun hp=>?_|refine And.intro ?_ ?_|clear hK K)
   all_goals first|omega
theorem l13Get_ok (c:Chain) (s:State) (p:Packet) (ok1:c.ok=true) (ok2:s.ok=true) (ok3:p.ok=true):Call Try.prog 37 [.g (chainA c 0),s.av,p.av] (chainH c 0) 8 (.tup [.g (chainA (c.get s p) 8),BB (c.getB s p)]) (chainH (c.get s p) 8) 16:=by
 obtain ⟨q1,q2,q3,q4,q5,q6⟩:=chain_ok ok1
 obtain ⟨r1,r2,r3,r4,r5,r6,r7,r8,r9⟩:=state_ok q3
 obtain ⟨t1,t2,t3,t4,t5,t6,t7,t8,t9⟩:=state_ok ok2
 obtain ⟨p1,p2,p3,p4,p5,p6,p7⟩:=packet_ok ok3
 cases e:c.getB s p
 · have e1:c.get s p=c:=by simp [Chain.get,e]
   rw [e1]
   cases eh:s.hasB p
   · refine vO tok Try.func37 rfl rfl Try.ntmps37 Try.results37 rfl (by decide) (fun cx hnt hk0=>?_)
     repeat' (first|refine vS fun K hK=>?_|refine hK _ ?_;clear hK K|refine hX ?_;clear hX hY X Y|((first|refine vR tok (by rw [hnt];rfl) ?_|refine vC fun X Y hX hY=>?_|refine vT ?_|refine vF [] ?_|(refine runS_c [] (l3Has_ok s p (by omega) (by omega)) rfl ?_ ?_ ?_)|(apply gR<;>intro hq<;>(try simp only [nT,nF,n1,n0] at hq)<;>(have hb:=hq)<;>(try simp only [dT,dF,eT,eF] at hb)<;>first|(exfalso;omega)|((try simp only [hq]);clear hq)))<;>(try simp only [go_sem,qa,qb,qc,qd,qe,qf,qg,qh,qi,qj,qk,ql,qm,qn,qo,qp,qq,qr,qs,reduceIte,reduceCtorEq,eh])))
     all_goals first|omega
   · have e2:3≤c.state.way→c.state.got.getD (p.seq - 1).toNat 0=0→p.ver=c.state.ver→¬ ((c.past.length:Int)+1 < p.till):=by
       intro h1 h2 h3 h4
       have h2':c.state.gotAt p.seq=0:=h2
       simp [Chain.getB,eh,h1,h2',h3,h4] at e
     refine vO tok Try.func37 rfl rfl Try.ntmps37 Try.results37 rfl (by decide) (fun cx hnt hk0=>?_)
     repeat' (first|refine vS fun K hK=>?_|refine hK _ ?_;clear hK K|refine hX ?_;clear hX hY X Y|((first|refine vR tok (by rw [hnt];rfl) ?_|refine vC fun X Y hX hY=>?_|refine vT ?_|refine vF [] ?_|(refine runS_c [] (l3Has_ok s p (by omega) (by omega)) rfl ?_ ?_ ?_)|((first|apply gR|apply gC)<;>intro hq<;>(try simp only [nT,nF,n1,n0] at hq)<;>(have hb:=hq)<;>(try simp only [dT,dF,eT,eF] at hb)<;>first|(exfalso;omega)|((try simp only [hq]);clear hq)))<;>(try simp only [go_sem,qa,qb,qc,qd,qe,qf,qg,qh,qi,qj,qk,ql,qm,qn,qo,qp,qq,qr,qs,reduceIte,reduceCtorEq,eh]))|refine Fits.of ?_ ?_|(refine aL ?_ (fun hp=>?_)<;>((try simp only [rowSet_fI hp,rowSet_fI2 hp]);(try simp only [rowSet_fB hp])))|refine aE ?_ fun hp=>?_|refine aC ?_ fun hp=>?_|refine And.intro ?_ ?_|clear hK K)
     all_goals first|omega
 · have e1:c.get s p=c.getD p:=by simp [Chain.get,e]
   rw [e1]
   have e2:=e
   simp only [Chain.getB,Bool.and_eq_true,decide_eq_true_eq] at e2
   obtain ⟨e3,eh,e4,e5,e6⟩:=e2
   simp only [State.gotAt] at e4
   have e7:(if payB c.bank p then c.bank.backD (otherK p.kind) p.dst p.sum else c.bank)=payD c.bank p:=rfl
   have e8:(if payB c.bank p then (1:Int) else 2)=payN c.bank p:=rfl
   refine vO tok Try.func37 rfl rfl Try.ntmps37 Try.results37 rfl (by decide) (fun cx hnt hk0=>?_)
   repeat' (first|refine vS fun K hK=>?_|refine hK _ ?_;clear hK K|refine hY ?_;clear hX hY X Y|((first|refine vR tok (by rw [hnt];rfl) ?_|refine vC fun X Y hX hY=>?_|refine vK ?_|refine vT ?_|refine vF [] ?_|(refine runS_c [] (l3Has_ok s p (by omega) (by omega)) rfl ?_ ?_ ?_)|refine runS_c [_,_] (l13Pay_ok c.bank p q2 ok3) rfl ?_ ?_ ?_|((first|apply gR|apply gC)<;>intro hq<;>(try simp only [nT,nF,n1,n0] at hq)<;>(have hb:=hq)<;>(try simp only [dT,dF,eT,eF] at hb)<;>first|(exfalso;omega)|((try simp only [hq]);clear hq)))<;>(try simp only [go_sem,qa,qb,qc,qd,qe,qf,qg,qh,qi,qj,qk,ql,qm,qn,qo,qp,qq,qr,qs,reduceIte,reduceCtorEq,eh,Chain.getD,e7,e8]))|refine Fits.of ?_ ?_|(refine aL ?_ (fun hp=>?_)<;>((try simp only [rowSet_fI hp,rowSet_fI2 hp]);(try simp only [rowSet_fB hp])))|refine aE ?_ fun hp=>?_|refine aC ?_ fun hp=>?_|refine And.intro ?_ ?_|clear hK K)
   all_goals first|omega
theorem rle_snoc {H:Heap} {fz:Nat→Prop} {τ:List (Nat × Nat)} {N:Nat} {l:List State} {s:State} {c0 c1 c2 c3 c4 c5 c6:Cell}
   (h:cle H fz τ N c0 (.t (s.tv 0))∧cle H fz τ N c1 (.t (s.tv 1))∧cle H fz τ N c2 (.t (s.tv 2))∧cle H fz τ N c3 (.t (s.tv 3))∧cle H fz τ N c4 (.t (s.tv 4))∧cle H fz τ N c5 (.t (s.tv 5))∧cle H fz τ N c6 (.t (s.tv 6))) :
   rle H fz τ N 7 (l.length+1) (app l.length (fS l) (rowOf 7 [c0,c1,c2,c3,c4,c5,c6])) (fS (l++[s])):=by
 intro i hi j hj
 by_cases hl:i < l.length
 · have e1:app l.length (fS l) (rowOf 7 [c0,c1,c2,c3,c4,c5,c6]) i j=.t ((l.getD i default).tv j):=by simp [app,hl,fS]
   have e2:fS (l++[s]) i j=.t ((l.getD i default).tv j):=by simp [fS,List.getD,List.getElem?_append,hl]
   rw [e1,e2];simp [cle_t,tof_t,tle_refl]
 · have hi':i=l.length:=by omega
   subst hi'
   have e2:fS (l++[s]) l.length j=.t (s.tv j):=by simp [fS,List.getD]
   have e1:app l.length (fS l) (rowOf 7 [c0,c1,c2,c3,c4,c5,c6]) l.length j=rowOf 7 [c0,c1,c2,c3,c4,c5,c6] 0 j:=by simp [app]
   rw [e1,e2]
   obtain ⟨h0,h1,h2,h3,h4,h5,h6⟩:=h
   match j,hj with
   | 0,_=>exact h0
   | 1,_=>exact h1
   | 2,_=>exact h2
   | 3,_=>exact h3
   | 4,_=>exact h4
   | 5,_=>exact h5
   | 6,_=>exact h6
theorem l12Block_ok (c:Chain) (hc:c.ok=true):Call Try.prog 112 [.g (chainA c 0)] (chainH c 0) 8 (.o (.g (chainA c.block 8))) (chainH c.block 8) 16:=by
 obtain ⟨q1,q2,q3,q4,q5,q6⟩:=chain_ok hc
 obtain ⟨r1,r2,r3,r4,r5,r6,r7,r8,r9⟩:=state_ok q3
 unfold Chain.block
 by_cases hd:(c.past.length:Int) < 90
 · rw [if_pos hd]
   refine vO tok Try.func112 rfl rfl Try.ntmps112 Try.results112 rfl (by decide) (fun cx hnt hk0=>?_)


   repeat' (first|refine vS fun K hK=>?_|refine hK _ ?_;clear hK K|refine hX ?_;clear hX hY X Y|((first|refine vR tok (by rw [hnt];rfl) ?_|refine vC fun X Y hX hY=>?_|refine vT ?_|refine vF [10,11,12,13] ?_|(refine AWp.draw (id:=2) tok mixed (.tak 0 (.tak 2 (.all (.cons 1 (.all (.cons 3 (.all (.cons 4 (.all (.cons 5 (.all (.cons 6 (.tak 7 (.all (.cons 8 .done .nil))) .nil)) .nil)) .nil)) .nil)) (.cons 3 (.all (.cons 1 (.all (.cons 4 (.all (.cons 5 (.all (.cons 6 (.tak 7 (.all (.cons 8 .done .nil))) .nil)) .nil)) .nil)) (.cons 4 (.all (.cons 1 (.all (.cons 5 (.all (.cons 6 (.tak 7 (.all (.cons 8 .done .nil))) .nil)) .nil)) (.cons 5 (.all (.cons 1 (.all (.cons 6 (.tak 7 (.all (.cons 8 .done .nil))) .nil)) .nil)) .nil))) .nil))) .nil))))) [] [1] (by kernel_rfl) (by kernel_rfl) (by rw [hnt];rfl) ?_)|(refine effS_v [] (l3Copy_ok c.state (by omega) (by omega) (by omega) (by omega)) ?_ ?_ ?_ ?_ ?_)|(apply gC<;>intro hq<;>(try simp only [nT,nF,n1,n0] at hq)<;>(have hb:=hq)<;>(try simp only [dT,dF,eT,eF] at hb)<;>first|(exfalso;omega)|((try simp only [hq]);clear hq)))<;>(try simp only [go_sem,qa,qb,qc,qd,qe,qf,qg,qh,qi,qj,qk,ql,qm,qn,qo,qp,qq,qr,qs,reduceIte,reduceCtorEq]))|refine aE ?_ fun hp=>?_|refine And.intro ?_ ?_|clear hK K)
   all_goals first|omega|refine rle_snoc ?_;simp only [go_sem,qa,qb,qc,qd,qe,qf,qg,qh,qi,qj,qk,ql,qm,qn,qo,qp,qq,qr,qs,reduceIte,reduceCtorEq]|skip

 · rw [if_neg hd]
   refine vO tok Try.func112 rfl rfl Try.ntmps112 Try.results112 rfl (by decide) (fun cx hnt hk0=>?_)

   repeat' (first|refine vS fun K hK=>?_|refine hK _ ?_;clear hK K|refine hY ?_;clear hX hY X Y|((first|refine vR tok (by rw [hnt];rfl) ?_|refine vC fun X Y hX hY=>?_|refine vK ?_|refine vT ?_|refine vF [] ?_|(apply gC<;>intro hq<;>(try simp only [nT,nF,n1,n0] at hq)<;>(have hb:=hq)<;>(try simp only [dT,dF,eT,eF] at hb)<;>first|(exfalso;omega)|((try simp only [hq]);clear hq)))<;>(try simp only [go_sem,qa,qb,qc,qd,qe,qf,qg,qh,qi,qj,qk,ql,qm,qn,qo,qp,qq,qr,qs,reduceIte,reduceCtorEq])))
   all_goals first|omega|refine rle_snoc ?_;simp only [go_sem,qa,qb,qc,qd,qe,qf,qg,qh,qi,qj,qk,ql,qm,qn,qo,qp,qq,qr,qs,reduceIte,reduceCtorEq]|skip

theorem rle_snoc2 {H:Heap} {fz:Nat→Prop} {τ:List (Nat × Nat)} {N n:Nat} {l:List State} {s:State} {c0 c1 c2 c3 c4 c5 c6:Cell} (hn:n=l.length)
   (h:cle H fz τ N c0 (.t (s.tv 0))∧cle H fz τ N c1 (.t (s.tv 1))∧cle H fz τ N c2 (.t (s.tv 2))∧cle H fz τ N c3 (.t (s.tv 3))∧cle H fz τ N c4 (.t (s.tv 4))∧cle H fz τ N c5 (.t (s.tv 5))∧cle H fz τ N c6 (.t (s.tv 6))) :
   rle H fz τ N 7 (n+1) (app n (fS l) (rowOf 7 [c0,c1,c2,c3,c4,c5,c6])) (fS (l++[s])):=by subst hn;exact rle_snoc h
theorem take_snoc (l:List State) (i:Nat) (h:i < l.length):l.take (i+1)=l.take i++[l.getD i default]:=by
 rw [List.take_succ];simp [List.getD,h]
theorem l12Copy_ok (c:Chain) (ok1:c.ok=true):Call Try.prog 25 [c.av] [] 0 (.o (.g (chainA c 0))) (chainH c 0) 8:=by
 obtain ⟨q1,q2,q3,q4,q5,q6⟩:=chain_ok ok1
 have q7:=knows_len q6
 obtain ⟨r1,r2,r3,r4,r5,r6,r7,r8,r9⟩:=state_ok q3
 obtain ⟨b1,b2,b3,b4,b5⟩:=bank_ok q2
 have b6:=parts_len b1
 have b7:=parts_len b2
 have qs:∀ i,(c.past.getD i default).sent.length≤1000∧(c.past.getD i default).live.length≤1000∧(c.past.getD i default).back.length≤1000∧(c.past.getD i default).got.length≤1000:=by
   intro i
   by_cases hi:i < c.past.length
   · obtain ⟨r1,r2,r3,r4,r5,r6,r7,r8,r9⟩:=state_ok (q5 i hi)
     omega
   · have:c.past.getD i default=default:=by simp [List.getD,List.getElem?_eq_none (Nat.le_of_not_lt hi)]
     rw [this];exact ⟨Nat.zero_le _,Nat.zero_le _,Nat.zero_le _,Nat.zero_le _⟩
 refine vO tok Try.func25 rfl rfl Try.ntmps25 Try.results25 rfl (by decide) (fun cx hnt hk0=>?_)

 repeat' (first|refine vS fun K hK=>?_|refine hK _ ?_;clear hK K|refine vB ?_|((refine vR tok (by rw [hnt];rfl) ?_)<;>(try simp only [go_sem,qa,qb,qc,qd,qe,qf,qg,qh,qi,qj,qk,ql,qm,qn,qo,qp,qq,qr,qs,reduceIte,reduceCtorEq])))
 refine AWp.loop (fun i:Nat=>⟨[(1,.o (.c (.ptr 0 0 0 0))),(2,.o (.c (.ptr 1 0 0 0))),(3,.o (.c (.sl 2 7 0 i))),(4,.o (I i))],[(2,.row 7 i (fS (c.past.take i))),(0,c.box),(1,.box [.t (.v (.int .i64 0)),.t (.v (.slice none 0 0)),.t (.v (.slice none 0 0)),.t (.v (.int .i64 0)),.t (.v (.int .i64 0)),.t (.v (.int .i64 0)),.t (.v (.int .i64 0)),.t (.v (.slice none 0 0)),.t (.v (.slice none 0 0)),.t (.v (.slice none 0 0)),.t (.v (.slice none 0 0)),.t (.v (.slice none 0 0)),.t (.v (.slice none 0 0))])],3⟩) (fun i=>i≤c.past.length) (fun i=>c.past.length - i) 0 (Nat.zero_le _) ?_ ?_
 · refine vL hk0 [] ?_;simp only [go_sem,qa,qb,qc,qd,qe,qf,qg,qh,qi,qj,qk,ql,qm,qn,qo,qp,qq,qr,qs,reduceIte,reduceCtorEq]
   all_goals simp
 intro i hi
 obtain ⟨s1,s2,s3,s4⟩:=qs i

 repeat' (first|refine vS fun K hK=>?_|refine hK _ ?_;clear hK K|refine hX ?_;clear hX hY X Y|refine hY ?_;clear hX hY X Y|refine vB ?_|((first|refine vR tok (by rw [hnt];rfl) ?_|refine vC fun X Y hX hY=>?_|refine vK ?_|refine vE ?_|refine vT ?_|refine vF [] ?_|(refine runS_c [] (l3Copy_ok (c.past.getD i default) s1 s2 s3 s4) rfl ?_ ?_ ?_)|(refine AWp.draw (id:=6) tok mixed (.tak 0 (.tak 1 (.tak 2 (.tak 3 (.tak 5 (.tak 6 (.tak 8 (.tak 10 (.tak 11 (.all (.cons 4 (.all (.cons 7 (.all (.cons 9 (.all (.cons 12 (.all (.cons 13 (.all (.cons 14 .done .nil)) .nil)) .nil)) .nil)) (.cons 9 (.all (.cons 7 (.all (.cons 12 (.all (.cons 13 (.all (.cons 14 .done .nil)) .nil)) .nil)) .nil)) .nil))) (.cons 9 (.all (.cons 4 (.all (.cons 7 (.all (.cons 12 (.all (.cons 13 (.all (.cons 14 .done .nil)) .nil)) .nil)) .nil)) .nil)) .nil)))))))))))) [0] [1,2,3] (by kernel_rfl) (by kernel_rfl) (by rw [hnt];rfl) ?_)|(refine effS_c [] (l1Copy_ok c.bank (by omega) (by omega)) rfl ?_ ?_ ?_)|(refine effS_c [] (l3Copy_ok c.state (by omega) (by omega) (by omega) (by omega)) rfl ?_ ?_ ?_)|refine vL hk0 [3,4,5,6] ?_|(apply gC<;>intro hq<;>(try simp only [nT,nF,n1,n0] at hq)<;>(have hb:=hq)<;>(try simp only [dT,dF,eT,eF] at hb)<;>first|(exfalso;omega)|((try simp only [hq]);clear hq)))<;>(try simp only [go_sem,qa,qb,qc,qd,qe,qf,qg,qh,qi,qj,qk,ql,qm,qn,qo,qp,qq,qr,qs,reduceIte,reduceCtorEq]))|refine ⟨i+1,?_,?_,?_⟩|refine Fits.of ?_ ?_|refine aE ?_ fun hp=>?_|refine aC ?_ fun hp=>?_|refine And.intro ?_ ?_|clear hK K)
 all_goals try (first|omega|(simp only [dA,dB,dC];omega))
 all_goals try (rw [take_snoc c.past i (by omega)];refine rle_snoc2 (by simp;omega) ?_;simp only [go_sem,qa,qb,qc,qd,qe,qf,qg,qh,qi,qj,qk,ql,qm,qn,qo,qp,qq,qr,qs,reduceIte,reduceCtorEq];done)
 all_goals try (have ei:i=c.past.length:=by omega
                subst ei;simp [rle_fS];done)
 all_goals skip
def getsOf (c:Chain) (s:State) (chain h:Int) (n:Nat):List Event:=((s.sent.take n).filter fun p=>c.getB s p).map fun p=>⟨4,chain,h,0,p⟩
def restAt (c:Chain) (s:State) (chain h:Int) (i:Nat):List Event:=(if c.tellB s ((i:Int)+1) then [⟨5,chain,h,(i:Int)+1,⟨0,0,0,0,0,0,0⟩⟩] else [])++(if c.lateB s h ((i:Int)+1) then [⟨6,chain,h,(i:Int)+1,⟨0,0,0,0,0,0,0⟩⟩] else [])
def restOf (c:Chain) (s:State) (chain h:Int) (n:Nat):List Event:=(List.range n).flatMap (restAt c s chain h)
def planOf (c:Chain) (s:State) (chain h:Int):List Event:=getsOf c s chain h s.sent.length++restOf c s chain h c.state.sent.length
def lastK (c:Chain):Int:=c.knows.getD ((c.knows.length:Int) - 1).toNat 0
def planC (c o:Chain) (chain:Int):List Event:=if c.knows.length=0 then [] else planOf c (o.past.getD (lastK c - 1).toNat default) chain (lastK c)
theorem gets_succ (c:Chain) (s:State) (chain h:Int) (i:Nat) (hi:i < s.sent.length):getsOf c s chain h (i+1)=getsOf c s chain h i++(if c.getB s (s.sent.getD i default)=true then [⟨4,chain,h,0,s.sent.getD i default⟩] else []):=by
 unfold getsOf
 rw [List.take_succ,List.filter_append,List.map_append]
 simp only [List.getD,List.getElem?_eq_getElem hi,Option.getD_some,Option.toList_some]
 cases hp:c.getB s s.sent[i]<;>simp [hp]
theorem gets_len (c:Chain) (s:State) (chain h:Int) (i:Nat):(getsOf c s chain h i).length≤i:=by
 unfold getsOf
 rw [List.length_map]
 refine Nat.le_trans (List.length_filter_le _ _) ?_
 rw [List.length_take];omega
theorem rest_succ (c:Chain) (s:State) (chain h:Int) (i:Nat):restOf c s chain h (i+1)=restOf c s chain h i++restAt c s chain h i:=by
 unfold restOf
 rw [List.range_succ,List.flatMap_append];simp
theorem rest_len (c:Chain) (s:State) (chain h:Int):∀ i:Nat,(restOf c s chain h i).length≤2 * i
 | 0=>by simp [restOf]
 | i + 1=>by
   rw [rest_succ,List.length_append]
   have:=rest_len c s chain h i
   have h2:(restAt c s chain h i).length≤2:=by
     unfold restAt
     rw [List.length_append]
     split<;>split<;>simp
   omega
theorem wOk_two {a b:Chain} (h:wOk [a,b]=true):a.ok=true∧(0 < a.knows.length→lastK a≤b.past.length)∧b.ok=true∧(0 < b.knows.length→lastK b≤a.past.length):=by
 simp only [wOk,kOk,Bool.and_eq_true,Bool.not_eq_true',Bool.and_eq_false_iff,decide_eq_false_iff_not,List.getD_cons_zero,List.getD_cons_succ] at h
 obtain ⟨_,h1,_,h2,h3,_,h4⟩:=h
 refine ⟨h1,fun h0=>?_,h3,fun h0=>?_⟩<;>unfold lastK<;>omega
theorem lastK_in {c:Chain} (h:∀ i,i < c.knows.length→knowOk c.knows i=true) (h0:¬ c.knows.length=0):1≤lastK c∧lastK c≤90:=by
 have:=h ((c.knows.length:Int) - 1).toNat (by omega)
 simp only [knowOk,Bool.and_eq_true,In_iff] at this
 exact this.1
theorem SumPlan_no (w:List Chain) (chain:Int) (hs:∀ i,(w.getD i default).small) (hw:(w.length:Int) < 1099511627776) (h:(wOk w && In chain 1 2)=false):Call Try.prog 11 [.g [.t (chainsT w)],I chain] [] 0 (.o (.c (.sl 0 11 0 0))) [(0,rE [])] 1:=by
 cases ew:wOk w
 · refine vO tok Try.func11 rfl rfl Try.ntmps11 Try.results11 rfl (by decide) (fun cx hnt hk0=>?_)
   repeat' (first|refine vS fun K hK=>?_|refine hK _ ?_;clear hK K|refine hX ?_;clear hX hY X Y|((first|refine vR tok (by rw [hnt];rfl) ?_|refine vC fun X Y hX hY=>?_|refine vT ?_|refine vF [] ?_|(refine runS_c [] (WorldOk_ok w hs hw) rfl ?_ ?_ ?_))<;>(try simp only [go_sem,qa,qb,qc,qd,qe,qf,qg,qh,qi,qj,qk,ql,qm,qn,qo,qp,qq,qr,qs,reduceIte,reduceCtorEq,ew])))
 · have ec:In chain 1 2=false:=by simpa [ew] using h
   refine vO tok Try.func11 rfl rfl Try.ntmps11 Try.results11 rfl (by decide) (fun cx hnt hk0=>?_)
   repeat' (first|refine vS fun K hK=>?_|refine hK _ ?_;clear hK K|refine hX ?_;clear hX hY X Y|((first|refine vR tok (by rw [hnt];rfl) ?_|refine vC fun X Y hX hY=>?_|refine vT ?_|refine vF [] ?_|refine runS_c [] (WorldOk_ok w hs hw) rfl ?_ ?_ ?_|(refine runS_c [] (l6In_ok _ _ _) rfl ?_ ?_ ?_))<;>(try simp only [go_sem,qa,qb,qc,qd,qe,qf,qg,qh,qi,qj,qk,ql,qm,qn,qo,qp,qq,qr,qs,reduceIte,reduceCtorEq,ew,ec])))
end Go.Hw
