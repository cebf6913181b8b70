/- What is proved here: parts of the walk of the law and of its plain side; no condition but those that each theorem states. -/
import Derived.Test.YtbdfdbkbmegcgaaGreatDoorPD1
set_option linter.all false
set_option maxRecDepth 100000
set_option maxHeartbeats 16000000
open Int renaming reduceToNat→qk,reduceAdd→ql,reduceSub→qm,reduceNeg→qn,reduceLT→qo,reduceLE→qp,reduceEq→qq,reduceBEq→qr,reduceBNe→qs
open Nat renaming reduceDiv→qa,reduceMod→qb,reduceAdd→qc,reduceMul→qd,reduceSub→qe,reduceLeDiff→qf,reduceBEq→qg,reduceEqDiff→qh,reduceBeqDiff→qi,reduceLT→qj
open Go.Hw renaming runG_split→gR,condG_split→gC,takG_split→gT,effG_split→gE
open Go.Hw.AWp renaming region→vR,seq→vS,cond'→vC,block→vB,skip→vK,ret→vT,exit→vE
open Go.Hw.Fin renaming auto→vF
open Go.Hw.SLe renaming auto→vL
open Go.Hw.CallX renaming of→vO
namespace Go.Hw
open Go.Proofs
theorem l6In_ok (n l h:Int):Call Tryz.prog 51 [I n,I l,I h] [] 0 (.o (BB (In n l h))) [] 0:=by
 refine vO tok Tryz.func51 rfl rfl Tryz.ntmps51 Tryz.results51 rfl (by decide) (fun cx hnt hk0=>?_)
 repeat' (first|refine vS fun K hK=>?_|refine hK _ ?_;clear hK K|((first|refine vR tok (by rw [hnt];rfl) ?_|refine vT ?_|refine vF [] ?_|(apply gR<;>intro hq<;>(try simp only [nT,nF,n1,n0] at hq)<;>(have hb:=hq)<;>(try simp only [dT,dF,eT,eF] at hb)<;>first|(exfalso;omega)|((try simp only [hq]);clear hq)))<;>(try simp only [go_sem,qa,qb,qc,qd,qe,qf,qg,qh,qi,qj,qk,ql,qm,qn,qo,qp,qq,qr,qs,reduceIte,reduceCtorEq])))
 all_goals simp [In, *]
theorem l1User_ok (n:Int):Call Tryz.prog 150 [I n] [] 0 (.o (BB (In n 1 3))) [] 0:=by
 refine vO tok Tryz.func150 rfl rfl Tryz.ntmps150 Tryz.results150 rfl (by decide) (fun cx hnt hk0=>?_)
 repeat' (first|refine vS fun K hK=>?_|refine hK _ ?_;clear hK K|((first|refine vR tok (by rw [hnt];rfl) ?_|refine vT ?_|refine vF [] ?_|(refine runS_c [] (l6In_ok _ _ _) rfl ?_ ?_ ?_))<;>(try simp only [go_sem,qa,qb,qc,qd,qe,qf,qg,qh,qi,qj,qk,ql,qm,qn,qo,qp,qq,qr,qs,reduceIte,reduceCtorEq])))
theorem PacketOk_ok (p:Packet):Call Tryz.prog 110 [p.av] [] 0 (.o (BB p.ok)) [] 0:=by
 refine vO tok Tryz.func110 rfl rfl Tryz.ntmps110 Tryz.results110 rfl (by decide) (fun cx hnt hk0=>?_)
 repeat' (first|refine vS fun K hK=>?_|refine hK _ ?_;clear hK K|((first|refine vR tok (by rw [hnt];rfl) ?_|refine vT ?_|refine vF [] ?_|refine runS_c [] (l6In_ok _ _ _) rfl ?_ ?_ ?_|refine runS_c [] (l1User_ok _) rfl ?_ ?_ ?_|(apply gR<;>intro hq<;>(try simp only [nT,nF,n1,n0] at hq)<;>(have hb:=hq)<;>(try simp only [dT,dF,eT,eF] at hb)<;>first|(exfalso;omega)|((try simp only [hq]);clear hq)))<;>(try simp only [go_sem,qa,qb,qc,qd,qe,qf,qg,qh,qi,qj,qk,ql,qm,qn,qo,qp,qq,qr,qs,reduceIte,reduceCtorEq])))
 all_goals simp [Packet.ok, *]
theorem l1All_ok (l:List Int) (hp:parts l=true):Call Tryz.prog 185 [.c (.t (intsT l))] [] 0 (.o (I (isum l))) [] 0:=by
 refine vO tok Tryz.func185 rfl rfl Tryz.ntmps185 Tryz.results185 rfl (by decide) (fun cx hnt hk0=>?_)
 repeat' (first|refine vS fun K hK=>?_|refine hK _ ?_;clear hK K|refine vB ?_|((refine vR tok (by rw [hnt];rfl) ?_)<;>(try simp only [go_sem,qa,qb,qc,qd,qe,qf,qg,qh,qi,qj,qk,ql,qm,qn,qo,qp,qq,qr,qs,reduceIte,reduceCtorEq])))
 refine AWp.loop (fun i:Nat=>⟨[(0,.o (.c (.t (intsT l)))),(3,.o (I (isum (l.take i)))),(4,.o (I i))],[],0⟩) (fun i=>i≤l.length) (fun i=>l.length - i) 0 (Nat.zero_le _) ?_ ?_
 · refine vL hk0 [] ?_;simp only [go_sem,qa,qb,qc,qd,qe,qf,qg,qh,qi,qj,qk,ql,qm,qn,qo,qp,qq,qr,qs,reduceIte,reduceCtorEq,List.take_zero,isum,List.foldl_nil]
   simp
 intro i hi
 have h1:=parts_len hp
 have h2:=parts_get hp i
 have h3:=parts_sum hp i hi
 repeat' (first|refine vS fun K hK=>?_|refine hK _ ?_;clear hK K|refine hX ?_;clear hX hY X Y|refine hY ?_;clear hX hY X Y|refine vB ?_|((first|refine vR tok (by rw [hnt];rfl) ?_|refine vC fun X Y hX hY=>?_|refine vK ?_|refine vE ?_|refine vT ?_|refine vF [] ?_|(apply gC<;>intro hq<;>(try simp only [nT,nF,n1,n0] at hq)<;>(have hb:=hq)<;>(try simp only [dT,dF,eT,eF] at hb)<;>first|(exfalso;omega)|((try simp only [hq]);clear hq)))<;>(try simp only [go_sem,qa,qb,qc,qd,qe,qf,qg,qh,qi,qj,qk,ql,qm,qn,qo,qp,qq,qr,qs,reduceIte,reduceCtorEq]))|refine Fits.of ?_ ?_|refine aE ?_ fun hp=>?_|refine aC ?_ fun hp=>?_|refine And.intro ?_ ?_|clear hK K)
 all_goals try (first|omega|(simp only [dA,dB,dC];omega))
 · refine ⟨i+1,by omega,?_,by omega⟩
   refine vL hk0 [] ?_;simp only [go_sem,qa,qb,qc,qd,qe,qf,qg,qh,qi,qj,qk,ql,qm,qn,qo,qp,qq,qr,qs,reduceIte,reduceCtorEq]
   rw [isum_take l i (by omega)];simp
 · rw [show i=l.length from by omega,List.take_length]
theorem l1Parts_ok (l:List Int) (hn:(l.length:Int) < 1099511627776):Call Tryz.prog 184 [.c (.t (intsT l))] [] 0 (.o (BB (parts l))) [] 0:=by
 refine vO tok Tryz.func184 rfl rfl Tryz.ntmps184 Tryz.results184 rfl (by decide) (fun cx hnt hk0=>?_)
 repeat' (first|refine vS fun K hK=>?_|refine hK _ ?_;clear hK K|refine vB ?_|((refine vR tok (by rw [hnt];rfl) ?_)<;>(try simp only [go_sem,qa,qb,qc,qd,qe,qf,qg,qh,qi,qj,qk,ql,qm,qn,qo,qp,qq,qr,qs,reduceIte,reduceCtorEq])))
 refine AWp.loop (fun i:Nat=>⟨[(0,.o (.c (.t (intsT l)))),(3,.o (I i))],[],0⟩) (fun i=>i≤l.length∧rall i (fun i=>In (l.getD i 0) 0 30)=true) (fun i=>l.length - i) 0 ⟨Nat.zero_le _,rall_zero⟩ ?_ ?_
 · refine vL hk0 [] ?_;simp only [go_sem,qa,qb,qc,qd,qe,qf,qg,qh,qi,qj,qk,ql,qm,qn,qo,qp,qq,qr,qs,reduceIte,reduceCtorEq]
   simp
 intro i ⟨hi,hr⟩
 repeat' (first|refine vS fun K hK=>?_|refine hK _ ?_;clear hK K|refine hX ?_;clear hX hY X Y|refine hY ?_;clear hX hY X Y|refine vB ?_|((first|refine vR tok (by rw [hnt];rfl) ?_|refine vC fun X Y hX hY=>?_|refine vK ?_|refine vE ?_|refine vT ?_|refine vF [] ?_|refine runS_c [] (l6In_ok _ _ _) rfl ?_ ?_ ?_|refine vL hk0 [] ?_|(apply gC<;>intro hq<;>(try simp only [nT,nF,n1,n0] at hq)<;>(have hb:=hq)<;>(try simp only [dT,dF,eT,eF] at hb)<;>first|(exfalso;omega)|((try simp only [hq]);clear hq)))<;>(try simp only [go_sem,qa,qb,qc,qd,qe,qf,qg,qh,qi,qj,qk,ql,qm,qn,qo,qp,qq,qr,qs,reduceIte,reduceCtorEq]))|refine ⟨i+1,?_,?_,?_⟩|refine Fits.of ?_ ?_|refine aE ?_ fun hp=>?_|refine aC ?_ fun hp=>?_|refine And.intro ?_ ?_|clear hK K)
 all_goals try (first|omega|(simp only [dA,dB,dC];omega))
 · simp only [parts]
   rw [rall_false (by omega) (p:=fun i=>In (l.getD i 0) 0 30) (i:=i) (by simpa using hb)];rfl
 · exact rall_succ hr (by simpa using hb)
 · rw [show i=l.length from by omega] at hr
   simp only [parts,hr,Bool.true_and]
theorem BankOk_ok (b:Bank) (hn:(b.own.length:Int) < 1099511627776) (hm:(b.notes.length:Int) < 1099511627776) (hl:b.locked < 1099511627776):Call Tryz.prog 151 [b.av] [] 0 (.o (BB b.ok)) [] 0:=by
 refine vO tok Tryz.func151 rfl rfl Tryz.ntmps151 Tryz.results151 rfl (by decide) (fun cx hnt hk0=>?_)

 repeat' (first|refine vS fun K hK=>?_|refine hK _ ?_;clear hK K|((first|refine vR tok (by rw [hnt];rfl) ?_|refine vT ?_|refine vF [] ?_|(refine AWp.draw (id:=1) tok mixed (.tak 0 (.tak 1 (.all (.cons 2 (.tak 3 (.tak 4 (.tak 5 (.all (.cons 6 (.tak 7 (.tak 8 (.tak 9 (.tak 10 (.tak 11 (.tak 12 (.tak 13 (.tak 14 (.tak 15 (.tak 17 (.tak 18 (.all (.cons 16 (.tak 19 (.tak 20 (.tak 21 (.tak 22 (.tak 23 (.tak 24 (.all (.cons 25 (.tak 26 (.tak 27 (.tak 28 .done))) .nil)))))))) .nil))))))))))))) .nil))))) .nil)))) [0] [1] (by kernel_rfl) (by kernel_rfl) (by rw [hnt];rfl) ?_)|refine effS_c [] (l1Parts_ok b.own hn) rfl ?_ ?_ ?_|refine effS_c [] (l1Parts_ok b.notes hm) rfl ?_ ?_ ?_|(refine effS_c [] (l1All_ok b.own (by assumption)) rfl ?_ ?_ ?_)|(refine effS_c [] (l1All_ok b.notes (by assumption)) rfl ?_ ?_ ?_)|(apply gT<;>intro hq<;>(try simp only [nT,nF,n1,n0] at hq)<;>(have hb:=hq)<;>(try simp only [dT,dF,eT,eF] at hb)<;>first|(exfalso;omega)|((try simp only [hq]);clear hq)))<;>(try simp only [go_sem,qa,qb,qc,qd,qe,qf,qg,qh,qi,qj,qk,ql,qm,qn,qo,qp,qq,qr,qs,reduceIte,reduceCtorEq]))|refine Fits.of ?_ ?_|refine And.intro ?_ ?_|clear hK K)
 all_goals try (have h0:parts b.own=true:=by assumption
                have:=parts_all h0;omega)
 all_goals try (simp [Bank.ok, *];done)
theorem BankNew_ok:Call Tryz.prog 74 [] [] 0 (.o (.g (bankA Bank.new 0))) (bankH Bank.new 0) 2:=by
 refine vO tok Tryz.func74 rfl rfl Tryz.ntmps74 Tryz.results74 rfl (by decide) (fun cx hnt hk0=>?_)
 repeat' (first|refine vS fun K hK=>?_|refine hK _ ?_;clear hK K|((first|refine vR tok (by rw [hnt];rfl) ?_|refine vT ?_|(refine vF [] ?_))<;>(try simp only [go_sem,qa,qb,qc,qd,qe,qf,qg,qh,qi,qj,qk,ql,qm,qn,qo,qp,qq,qr,qs,reduceIte,reduceCtorEq,Bank.new])))
theorem StateNew_ok:Call Tryz.prog 75 [] [] 0 (.o (.g (stateA State.new 0))) (stateH State.new 0) 4:=by
 refine vO tok Tryz.func75 rfl rfl Tryz.ntmps75 Tryz.results75 rfl (by decide) (fun cx hnt hk0=>?_)
 repeat' (first|refine vS fun K hK=>?_|refine hK _ ?_;clear hK K|((first|refine vR tok (by rw [hnt];rfl) ?_|refine vT ?_|(refine vF [] ?_))<;>(try simp only [go_sem,qa,qb,qc,qd,qe,qf,qg,qh,qi,qj,qk,ql,qm,qn,qo,qp,qq,qr,qs,reduceIte,reduceCtorEq,State.new])))
theorem l1Copy_ok (b:Bank) (h1:b.own.length≤1000) (h2:b.notes.length≤1000):Call Tryz.prog 154 [b.av] [] 0 (.o (.g (bankA b 0))) (bankH b 0) 2:=by
 refine vO tok Tryz.func154 rfl rfl Tryz.ntmps154 Tryz.results154 rfl (by decide) (fun cx hnt hk0=>?_)

 repeat' (first|refine vS fun K hK=>?_|refine hK _ ?_;clear hK K|((first|refine vR tok (by rw [hnt];rfl) ?_|refine vT ?_|refine vF [] ?_|(refine AWp.draw (id:=1) tok mixed (.tak 1 (.tak 2 (.tak 5 (.tak 6 (.tak 8 (.tak 9 (.all (.cons 0 (.all (.cons 3 (.all (.cons 4 (.all (.cons 7 (.all (.cons 10 (.all (.cons 11 .done .nil)) .nil)) .nil)) .nil)) (.cons 4 (.all (.cons 3 (.all (.cons 7 (.all (.cons 10 (.all (.cons 11 .done .nil)) .nil)) .nil)) .nil)) .nil))) (.cons 4 (.all (.cons 0 (.all (.cons 3 (.all (.cons 7 (.all (.cons 10 (.all (.cons 11 .done .nil)) .nil)) .nil)) .nil)) .nil)) .nil))))))))) [0] [1,2] (by kernel_rfl) (by kernel_rfl) (by rw [hnt];rfl) ?_))<;>(try simp only [go_sem,qa,qb,qc,qd,qe,qf,qg,qh,qi,qj,qk,ql,qm,qn,qo,qp,qq,qr,qs,reduceIte,reduceCtorEq]))|refine aE ?_ fun hp=>?_|refine And.intro ?_ ?_|clear hK K)
 all_goals try omega
theorem l3Copy_ok (s:State) (h1:s.sent.length≤1000) (h2:s.live.length≤1000) (h3:s.back.length≤1000) (h4:s.got.length≤1000):Call Tryz.prog 153 [s.av] [] 0 (.o (.g (stateA s 0))) (stateH s 0) 4:=by
 refine vO tok Tryz.func153 rfl rfl Tryz.ntmps153 Tryz.results153 rfl (by decide) (fun cx hnt hk0=>?_)
 repeat' (first|refine vS fun K hK=>?_|refine hK _ ?_;clear hK K|((first|refine vR tok (by rw [hnt];rfl) ?_|refine vT ?_|(refine vF [] ?_))<;>(try simp only [go_sem,qa,qb,qc,qd,qe,qf,qg,qh,qi,qj,qk,ql,qm,qn,qo,qp,qq,qr,qs,reduceIte,reduceCtorEq]))|refine aE ?_ fun hp=>?_|clear hK K)
 all_goals try omega
theorem l1List_own (b:Bank) (kind:Int) (hk:kind=1):Call Tryz.prog 157 [.g (bankA b 0),I kind] (bankH b 0) 2 (.o (.c (.sl 0 1 0 b.own.length))) (bankH b 0) 2:=by
 refine vO tok Tryz.func157 rfl rfl Tryz.ntmps157 Tryz.results157 rfl (by decide) (fun cx hnt hk0=>?_)
 repeat' (first|refine vS fun K hK=>?_|refine hK _ ?_;clear hK K|refine hX ?_;clear hX hY X Y|((first|refine vR tok (by rw [hnt];rfl) ?_|refine vC fun X Y hX hY=>?_|refine vT ?_|refine vF [] ?_|(apply gC<;>intro hq<;>(try simp only [nT,nF,n1,n0] at hq)<;>(have hb:=hq)<;>(try simp only [dT,dF,eT,eF] at hb)<;>first|(exfalso;omega)|((try simp only [hq]);clear hq)))<;>(try simp only [go_sem,qa,qb,qc,qd,qe,qf,qg,qh,qi,qj,qk,ql,qm,qn,qo,qp,qq,qr,qs,reduceIte,reduceCtorEq])))
 all_goals try (exfalso;omega)
theorem l1List_note (b:Bank) (kind:Int) (hk:kind ≠ 1):Call Tryz.prog 157 [.g (bankA b 0),I kind] (bankH b 0) 2 (.o (.c (.sl 1 1 0 b.notes.length))) (bankH b 0) 2:=by
 refine vO tok Tryz.func157 rfl rfl Tryz.ntmps157 Tryz.results157 rfl (by decide) (fun cx hnt hk0=>?_)
 repeat' (first|refine vS fun K hK=>?_|refine hK _ ?_;clear hK K|refine hY ?_;clear hX hY X Y|((first|refine vR tok (by rw [hnt];rfl) ?_|refine vC fun X Y hX hY=>?_|refine vK ?_|refine vT ?_|refine vF [] ?_|(apply gC<;>intro hq<;>(try simp only [nT,nF,n1,n0] at hq)<;>(have hb:=hq)<;>(try simp only [dT,dF,eT,eF] at hb)<;>first|(exfalso;omega)|((try simp only [hq]);clear hq)))<;>(try simp only [go_sem,qa,qb,qc,qd,qe,qf,qg,qh,qi,qj,qk,ql,qm,qn,qo,qp,qq,qr,qs,reduceIte,reduceCtorEq])))
 all_goals try (exfalso;omega)
theorem l1List_tree (b:Bank) (kind:Int):Call Tryz.prog 157 [b.av,I kind] [] 0 (.o (.c (.t (intsT (b.list kind))))) [] 0:=by
 refine vO tok Tryz.func157 rfl rfl Tryz.ntmps157 Tryz.results157 rfl (by decide) (fun cx hnt hk0=>?_)
 by_cases hk1:kind=1
 · have e:b.list kind=b.own:=by simp [Bank.list,hk1]
   rw [e]
   repeat' (first|refine vS fun K hK=>?_|refine hK _ ?_;clear hK K|refine hX ?_;clear hX hY X Y|((first|refine vR tok (by rw [hnt];rfl) ?_|refine vC fun X Y hX hY=>?_|refine vT ?_|refine vF [] ?_|(apply gC<;>intro hq<;>(try simp only [nT,nF,n1,n0] at hq)<;>(have hb:=hq)<;>(try simp only [dT,dF,eT,eF] at hb)<;>first|(exfalso;omega)|((try simp only [hq]);clear hq)))<;>(try simp only [go_sem,qa,qb,qc,qd,qe,qf,qg,qh,qi,qj,qk,ql,qm,qn,qo,qp,qq,qr,qs,reduceIte,reduceCtorEq])))
   all_goals try (exfalso;omega)
 · have e:b.list kind=b.notes:=by simp [Bank.list,hk1]
   rw [e]
   repeat' (first|refine vS fun K hK=>?_|refine hK _ ?_;clear hK K|refine hY ?_;clear hX hY X Y|((first|refine vR tok (by rw [hnt];rfl) ?_|refine vC fun X Y hX hY=>?_|refine vK ?_|refine vT ?_|refine vF [] ?_|(apply gC<;>intro hq<;>(try simp only [nT,nF,n1,n0] at hq)<;>(have hb:=hq)<;>(try simp only [dT,dF,eT,eF] at hb)<;>first|(exfalso;omega)|((try simp only [hq]);clear hq)))<;>(try simp only [go_sem,qa,qb,qc,qd,qe,qf,qg,qh,qi,qj,qk,ql,qm,qn,qo,qp,qq,qr,qs,reduceIte,reduceCtorEq])))
   all_goals try (exfalso;omega)
theorem BankMove_ok (b:Bank) (kind src dst sum:Int) (h1:b.own.length≤1000) (h2:b.notes.length≤1000) (h3:b.locked < 1099511627776) :
   Call Tryz.prog 116 [b.av,I kind,I src,I dst,I sum] [] 0 (.tup [.g (bankA (b.moved kind src dst sum) 0),BB (b.moveB kind src dst sum)]) (bankH (b.moved kind src dst sum) 0) 2:=by
 unfold Bank.moved
 have qk:b.ok=true→(b.list kind).length=3:=fun h=>by
   obtain ⟨q1,q2,_⟩:=bank_ok h
   unfold Bank.list
   split
   · exact parts_len q1
   · exact parts_len q2
 cases hA:b.moveB kind src dst sum
 · refine vO tok Tryz.func116 rfl rfl Tryz.ntmps116 Tryz.results116 rfl (by decide) (fun cx hnt hk0=>?_)
   repeat' (first|refine vS fun K hK=>?_|refine hK _ ?_;clear hK K|refine hX ?_;clear hX hY X Y|refine hY ?_;clear hX hY X Y|((first|refine vR tok (by rw [hnt];rfl) ?_|refine vC fun X Y hX hY=>?_|refine vK ?_|refine vT ?_|refine vF [] ?_|(refine runS_c [] (BankOk_ok b (by omega) (by omega) h3) rfl ?_ ?_ ?_)|refine runS_c [] (l6In_ok _ _ _) rfl ?_ ?_ ?_|refine runS_c [] (l1User_ok _) rfl ?_ ?_ ?_|refine runS_c [] (l1List_tree b kind) rfl ?_ ?_ ?_|((first|apply gR|apply gC)<;>intro hq<;>(try simp only [nT,nF,n1,n0] at hq)<;>(have hb:=hq)<;>(try simp only [dT,dF,eT,eF] at hb)<;>first|(exfalso;omega)|((try simp only [hq]);clear hq)))<;>(try simp only [go_sem,qa,qb,qc,qd,qe,qf,qg,qh,qi,qj,qk,ql,qm,qn,qo,qp,qq,qr,qs,reduceIte,reduceCtorEq,Bool.false_eq_true,Bank.none]))|refine Fits.of ?_ ?_|refine aE ?_ fun hp=>?_|refine aC ?_ fun hp=>?_|refine And.intro ?_ ?_|clear hK K)
   all_goals try (have qk:=qk (by assumption);simp only [In_iff] at *;omega)
   all_goals (exfalso
              have:b.moveB kind src dst sum=true:=by
                clear hA qk
                simp only [Bank.moveB,Bank.at,Bool.true_and,Bool.and_eq_true,decide_eq_true_eq,true_and, *]
                exact ⟨by omega,decide_eq_true (by omega)⟩
              rw [this] at hA;cases hA)
 · have hA2:=hA
   simp only [Bank.moveB,Bool.and_eq_true,decide_eq_true_eq] at hA2
   obtain ⟨hb,h4,h5,h6,h7,h8⟩:=hA2
   obtain ⟨q1,q2,q3,q4,q5⟩:=bank_ok hb
   have q6:=parts_len q1
   have q7:=parts_len q2
   have q8:=parts_get q1 (src - 1).toNat
   have q9:=parts_get q2 (src - 1).toNat
   have q10:=parts_get q1 (dst - 1).toNat
   have q11:=parts_get q2 (dst - 1).toNat
   have h4':=h4;have h5':=h5;have h6':=h6
   rw [In_iff] at h4' h5' h6'
   clear qk
   by_cases hd:kind=1
   · have e:b.list kind=b.own:=by simp [Bank.list,hd]
     have h8':sum≤b.own.getD (src - 1).toNat 0:=by simpa [-List.getD_eq_getElem?_getD,Bank.at,e] using h8
     have q12:=parts_set q1 (i:=(src - 1).toNat) (v:=b.own.getD (src - 1).toNat 0 - sum) (by omega)
     have q13:=parts_get q12 (dst - 1).toNat
     refine vO tok Tryz.func116 rfl rfl Tryz.ntmps116 Tryz.results116 rfl (by decide) (fun cx hnt hk0=>?_)
     repeat' (first|refine vS fun K hK=>?_|refine hK _ ?_;clear hK K|refine hY ?_;clear hX hY X Y|((first|refine vR tok (by rw [hnt];rfl) ?_|refine vC fun X Y hX hY=>?_|refine vK ?_|refine vT ?_|refine vF [] ?_|(refine runS_c [] (BankOk_ok b (by omega) (by omega) h3) rfl ?_ ?_ ?_)|refine runS_c [] (l6In_ok _ _ _) rfl ?_ ?_ ?_|refine runS_c [] (l1User_ok _) rfl ?_ ?_ ?_|refine runS_c [] (l1List_tree b kind) rfl ?_ ?_ ?_|refine runS_c [] (l1Copy_ok b h1 h2) rfl ?_ ?_ ?_|refine runS_c [_,_] (l1List_own b kind hd) rfl ?_ ?_ ?_|((first|apply gR|apply gC)<;>intro hq<;>(try simp only [nT,nF,n1,n0] at hq)<;>(have hb:=hq)<;>(try simp only [dT,dF,eT,eF] at hb)<;>first|(exfalso;omega)|((try simp only [hq]);clear hq)))<;>(try simp only [go_sem,qa,qb,qc,qd,qe,qf,qg,qh,qi,qj,qk,ql,qm,qn,qo,qp,qq,qr,qs,reduceIte,reduceCtorEq,hb,h4,h5,h6,e,Bank.moveD,Bank.dec,Bank.add,Bank.put,Bank.list,Bank.at,if_pos hd]))|refine Fits.of ?_ ?_|(refine aL ?_ (fun hp=>?_)<;>((try simp only [rowSet_fI hp,rowSet_fI2 hp]);(try simp only [rowSet_fB hp])))|refine aE ?_ fun hp=>?_|refine aC ?_ fun hp=>?_|refine And.intro ?_ ?_|clear hK K)
     all_goals omega
   · have e:b.list kind=b.notes:=by simp [Bank.list,hd]
     have h8':sum≤b.notes.getD (src - 1).toNat 0:=by simpa [-List.getD_eq_getElem?_getD,Bank.at,e] using h8
     have q12:=parts_set q2 (i:=(src - 1).toNat) (v:=b.notes.getD (src - 1).toNat 0 - sum) (by omega)
     have q13:=parts_get q12 (dst - 1).toNat
     refine vO tok Tryz.func116 rfl rfl Tryz.ntmps116 Tryz.results116 rfl (by decide) (fun cx hnt hk0=>?_)
     repeat' (first|refine vS fun K hK=>?_|refine hK _ ?_;clear hK K|refine hY ?_;clear hX hY X Y|((first|refine vR tok (by rw [hnt];rfl) ?_|refine vC fun X Y hX hY=>?_|refine vK ?_|refine vT ?_|refine vF [] ?_|(refine runS_c [] (BankOk_ok b (by omega) (by omega) h3) rfl ?_ ?_ ?_)|refine runS_c [] (l6In_ok _ _ _) rfl ?_ ?_ ?_|refine runS_c [] (l1User_ok _) rfl ?_ ?_ ?_|refine runS_c [] (l1List_tree b kind) rfl ?_ ?_ ?_|refine runS_c [] (l1Copy_ok b h1 h2) rfl ?_ ?_ ?_|refine runS_c [_,_] (l1List_note b kind hd) rfl ?_ ?_ ?_|((first|apply gR|apply gC)<;>intro hq<;>(try simp only [nT,nF,n1,n0] at hq)<;>(have hb:=hq)<;>(try simp only [dT,dF,eT,eF] at hb)<;>first|(exfalso;omega)|((try simp only [hq]);clear hq)))<;>(try simp only [go_sem,qa,qb,qc,qd,qe,qf,qg,qh,qi,qj,qk,ql,qm,qn,qo,qp,qq,qr,qs,reduceIte,reduceCtorEq,hb,h4,h5,h6,e,Bank.moveD,Bank.dec,Bank.add,Bank.put,Bank.list,Bank.at,if_neg hd]))|refine Fits.of ?_ ?_|(refine aL ?_ (fun hp=>?_)<;>((try simp only [rowSet_fI hp,rowSet_fI2 hp]);(try simp only [rowSet_fB hp])))|refine aE ?_ fun hp=>?_|refine aC ?_ fun hp=>?_|refine And.intro ?_ ?_|clear hK K)
     all_goals omega
theorem l1Away_ok (b:Bank) (kind src sum:Int) (hb:b.ok=true) (hs:In src 1 3=true) (h0:0≤sum) (h9:sum≤1000) :
   Call Tryz.prog 156 [.g (bankA b 0),I kind,I src,I sum] (bankH b 0) 2 (.tup [.g (bankA (b.away kind src sum) 2),BB (b.awayB kind src sum)]) (bankH (b.away kind src sum) 2) 4:=by
 obtain ⟨q1,q2,q3,q4,q5⟩:=bank_ok hb
 have q6:=parts_len q1
 have q7:=parts_len q2
 have q8:=parts_get q1 (src - 1).toNat
 have q9:=parts_get q2 (src - 1).toNat
 have q10:=parts_all q1
 rw [In_iff] at hs
 unfold Bank.away
 by_cases hd:kind=1
 · cases hA:b.awayB kind src sum
   · have hA2:b.own.getD (src - 1).toNat 0 < sum:=by simpa [-List.getD_eq_getElem?_getD,Bank.awayB,Bank.at,Bank.list,hd] using hA
     refine vO tok Tryz.func156 rfl rfl Tryz.ntmps156 Tryz.results156 rfl (by decide) (fun cx hnt hk0=>?_)
     repeat' (first|refine vS fun K hK=>?_|refine hK _ ?_;clear hK K|refine hX ?_;clear hX hY X Y|((first|refine vR tok (by rw [hnt];rfl) ?_|refine vC fun X Y hX hY=>?_|refine vT ?_|refine vF [] ?_|refine runS_c [_,_] (l1List_own b kind hd) rfl ?_ ?_ ?_|(apply gC<;>intro hq<;>(try simp only [nT,nF,n1,n0] at hq)<;>(have hb:=hq)<;>(try simp only [dT,dF,eT,eF] at hb)<;>first|(exfalso;omega)|((try simp only [hq]);clear hq)))<;>(try simp only [go_sem,qa,qb,qc,qd,qe,qf,qg,qh,qi,qj,qk,ql,qm,qn,qo,qp,qq,qr,qs,reduceIte,reduceCtorEq,Bool.false_eq_true]))|refine Fits.of ?_ ?_|(refine aL ?_ (fun hp=>?_)<;>((try simp only [rowSet_fI hp,rowSet_fI2 hp]);(try simp only [rowSet_fB hp])))|refine aE ?_ fun hp=>?_|refine aC ?_ fun hp=>?_|refine And.intro ?_ ?_|clear hK K)
     all_goals omega
   · have hA2:sum≤b.own.getD (src - 1).toNat 0:=by simpa [-List.getD_eq_getElem?_getD,Bank.awayB,Bank.at,Bank.list,hd] using hA
     refine vO tok Tryz.func156 rfl rfl Tryz.ntmps156 Tryz.results156 rfl (by decide) (fun cx hnt hk0=>?_)
     repeat' (first|refine vS fun K hK=>?_|refine hK _ ?_;clear hK K|refine hX ?_;clear hX hY X Y|refine hY ?_;clear hX hY X Y|((first|refine vR tok (by rw [hnt];rfl) ?_|refine vC fun X Y hX hY=>?_|refine vK ?_|refine vT ?_|refine vF [] ?_|refine runS_c [_,_] (l1List_own b kind hd) rfl ?_ ?_ ?_|(apply gC<;>intro hq<;>(try simp only [nT,nF,n1,n0] at hq)<;>(have hb:=hq)<;>(try simp only [dT,dF,eT,eF] at hb)<;>first|(exfalso;omega)|((try simp only [hq]);clear hq)))<;>(try simp only [go_sem,qa,qb,qc,qd,qe,qf,qg,qh,qi,qj,qk,ql,qm,qn,qo,qp,qq,qr,qs,reduceIte,reduceCtorEq,Bank.awayD,Bank.dec,Bank.put,Bank.list,Bank.at,if_pos hd]))|refine Fits.of ?_ ?_|(refine aL ?_ (fun hp=>?_)<;>((try simp only [rowSet_fI hp,rowSet_fI2 hp]);(try simp only [rowSet_fB hp])))|refine aE ?_ fun hp=>?_|refine aC ?_ fun hp=>?_|refine And.intro ?_ ?_|clear hK K)
     all_goals omega
 · cases hA:b.awayB kind src sum
   · have hA2:b.notes.getD (src - 1).toNat 0 < sum:=by simpa [-List.getD_eq_getElem?_getD,Bank.awayB,Bank.at,Bank.list,hd] using hA
     refine vO tok Tryz.func156 rfl rfl Tryz.ntmps156 Tryz.results156 rfl (by decide) (fun cx hnt hk0=>?_)
     repeat' (first|refine vS fun K hK=>?_|refine hK _ ?_;clear hK K|refine hX ?_;clear hX hY X Y|((first|refine vR tok (by rw [hnt];rfl) ?_|refine vC fun X Y hX hY=>?_|refine vT ?_|refine vF [] ?_|refine runS_c [_,_] (l1List_note b kind hd) rfl ?_ ?_ ?_|(apply gC<;>intro hq<;>(try simp only [nT,nF,n1,n0] at hq)<;>(have hb:=hq)<;>(try simp only [dT,dF,eT,eF] at hb)<;>first|(exfalso;omega)|((try simp only [hq]);clear hq)))<;>(try simp only [go_sem,qa,qb,qc,qd,qe,qf,qg,qh,qi,qj,qk,ql,qm,qn,qo,qp,qq,qr,qs,reduceIte,reduceCtorEq,Bool.false_eq_true]))|refine Fits.of ?_ ?_|(refine aL ?_ (fun hp=>?_)<;>((try simp only [rowSet_fI hp,rowSet_fI2 hp]);(try simp only [rowSet_fB hp])))|refine aE ?_ fun hp=>?_|refine aC ?_ fun hp=>?_|refine And.intro ?_ ?_|clear hK K)
     all_goals omega
   · have hA2:sum≤b.notes.getD (src - 1).toNat 0:=by simpa [-List.getD_eq_getElem?_getD,Bank.awayB,Bank.at,Bank.list,hd] using hA
     refine vO tok Tryz.func156 rfl rfl Tryz.ntmps156 Tryz.results156 rfl (by decide) (fun cx hnt hk0=>?_)
     repeat' (first|refine vS fun K hK=>?_|refine hK _ ?_;clear hK K|refine hY ?_;clear hX hY X Y|((first|refine vR tok (by rw [hnt];rfl) ?_|refine vC fun X Y hX hY=>?_|refine vK ?_|refine vT ?_|refine vF [] ?_|refine runS_c [_,_] (l1List_note b kind hd) rfl ?_ ?_ ?_|(apply gC<;>intro hq<;>(try simp only [nT,nF,n1,n0] at hq)<;>(have hb:=hq)<;>(try simp only [dT,dF,eT,eF] at hb)<;>first|(exfalso;omega)|((try simp only [hq]);clear hq)))<;>(try simp only [go_sem,qa,qb,qc,qd,qe,qf,qg,qh,qi,qj,qk,ql,qm,qn,qo,qp,qq,qr,qs,reduceIte,reduceCtorEq,Bank.awayD,Bank.dec,Bank.put,Bank.list,Bank.at,if_neg hd]))|refine Fits.of ?_ ?_|(refine aL ?_ (fun hp=>?_)<;>((try simp only [rowSet_fI hp,rowSet_fI2 hp]);(try simp only [rowSet_fB hp])))|refine aE ?_ fun hp=>?_|refine aC ?_ fun hp=>?_|refine And.intro ?_ ?_|clear hK K)
     all_goals omega
theorem l1Away_no (b:Bank) (kind src sum:Int) (ok1:b.ok=true) (hs:In src 1 3=true) (hA:b.awayB kind src sum=false) :
   Call Tryz.prog 156 [.g (bankA b 0),I kind,I src,I sum] (bankH b 0) 2 (.tup [.g (bankA b 0),BB false]) (bankH b 0) 2:=by
 obtain ⟨q1,q2,q3,q4,q5⟩:=bank_ok ok1
 have q6:=parts_len q1
 have q7:=parts_len q2
 rw [In_iff] at hs
 by_cases hd:kind=1
 · have hA2:b.own.getD (src - 1).toNat 0 < sum:=by simpa [-List.getD_eq_getElem?_getD,Bank.awayB,Bank.at,Bank.list,hd] using hA
   refine vO tok Tryz.func156 rfl rfl Tryz.ntmps156 Tryz.results156 rfl (by decide) (fun cx hnt hk0=>?_)
   repeat' (first|refine vS fun K hK=>?_|refine hK _ ?_;clear hK K|refine hX ?_;clear hX hY X Y|((first|refine vR tok (by rw [hnt];rfl) ?_|refine vC fun X Y hX hY=>?_|refine vT ?_|refine vF [] ?_|refine runS_c [_,_] (l1List_own b kind hd) rfl ?_ ?_ ?_|(apply gC<;>intro hq<;>(try simp only [nT,nF,n1,n0] at hq)<;>(have hb:=hq)<;>(try simp only [dT,dF,eT,eF] at hb)<;>first|(exfalso;omega)|((try simp only [hq]);clear hq)))<;>(try simp only [go_sem,qa,qb,qc,qd,qe,qf,qg,qh,qi,qj,qk,ql,qm,qn,qo,qp,qq,qr,qs,reduceIte,reduceCtorEq]))|refine Fits.of ?_ ?_|(refine aL ?_ (fun hp=>?_)<;>((try simp only [rowSet_fI hp,rowSet_fI2 hp]);(try simp only [rowSet_fB hp])))|refine aE ?_ fun hp=>?_|refine aC ?_ fun hp=>?_|refine And.intro ?_ ?_|clear hK K)
   all_goals omega
 · have hA2:b.notes.getD (src - 1).toNat 0 < sum:=by simpa [-List.getD_eq_getElem?_getD,Bank.awayB,Bank.at,Bank.list,hd] using hA
   refine vO tok Tryz.func156 rfl rfl Tryz.ntmps156 Tryz.results156 rfl (by decide) (fun cx hnt hk0=>?_)
   repeat' (first|refine vS fun K hK=>?_|refine hK _ ?_;clear hK K|refine hX ?_;clear hX hY X Y|((first|refine vR tok (by rw [hnt];rfl) ?_|refine vC fun X Y hX hY=>?_|refine vT ?_|refine vF [] ?_|refine runS_c [_,_] (l1List_note b kind hd) rfl ?_ ?_ ?_|(apply gC<;>intro hq<;>(try simp only [nT,nF,n1,n0] at hq)<;>(have hb:=hq)<;>(try simp only [dT,dF,eT,eF] at hb)<;>first|(exfalso;omega)|((try simp only [hq]);clear hq)))<;>(try simp only [go_sem,qa,qb,qc,qd,qe,qf,qg,qh,qi,qj,qk,ql,qm,qn,qo,qp,qq,qr,qs,reduceIte,reduceCtorEq]))|refine Fits.of ?_ ?_|(refine aL ?_ (fun hp=>?_)<;>((try simp only [rowSet_fI hp,rowSet_fI2 hp]);(try simp only [rowSet_fB hp])))|refine aE ?_ fun hp=>?_|refine aC ?_ fun hp=>?_|refine And.intro ?_ ?_|clear hK K)
   all_goals omega
theorem l1Back_ok (b:Bank) (kind dst sum:Int) (hb:b.ok=true) (hs:In dst 1 3=true) (hk:In kind 1 2=true) (h0:0≤sum) (h9:sum≤1000) :
   Call Tryz.prog 198 [.g (bankA b 0),I kind,I dst,I sum] (bankH b 0) 2 (.tup [.g (bankA (b.back kind dst sum) 2),BB (b.backB kind dst sum)]) (bankH (b.back kind dst sum) 2) 4:=by
 obtain ⟨q1,q2,q3,q4,q5⟩:=bank_ok hb
 have q6:=parts_len q1
 have q7:=parts_len q2
 have q8:=parts_get q1 (dst - 1).toNat
 have q9:=parts_get q2 (dst - 1).toNat
 have q10:=parts_all q1
 have q11:=parts_all q2
 rw [In_iff] at hs hk
 unfold Bank.back
 by_cases hd:kind=1
 · cases hA:b.backB kind dst sum
   · have hA2:b.locked < sum:=by simpa [Bank.backB,hd] using hA
     clear hk
     refine vO tok Tryz.func198 rfl rfl Tryz.ntmps198 Tryz.results198 rfl (by decide) (fun cx hnt hk0=>?_)
     repeat' (first|refine vS fun K hK=>?_|refine hK _ ?_;clear hK K|refine hX ?_;clear hX hY X Y|((first|refine vR tok (by rw [hnt];rfl) ?_|refine vC fun X Y hX hY=>?_|refine vT ?_|refine vF [] ?_|(apply gR<;>intro hq<;>(try simp only [nT,nF,n1,n0] at hq)<;>(have hb:=hq)<;>(try simp only [dT,dF,eT,eF] at hb)<;>first|(exfalso;omega)|((try simp only [hq]);clear hq)))<;>(try simp only [go_sem,qa,qb,qc,qd,qe,qf,qg,qh,qi,qj,qk,ql,qm,qn,qo,qp,qq,qr,qs,reduceIte,reduceCtorEq,Bool.false_eq_true])))
     all_goals try omega
   · have hA2:sum≤b.locked:=by simpa [Bank.backB,hd] using hA
     clear hk
     refine vO tok Tryz.func198 rfl rfl Tryz.ntmps198 Tryz.results198 rfl (by decide) (fun cx hnt hk0=>?_)
     repeat' (first|refine vS fun K hK=>?_|refine hK _ ?_;clear hK K|refine hX ?_;clear hX hY X Y|refine hY ?_;clear hX hY X Y|((first|refine vR tok (by rw [hnt];rfl) ?_|refine vC fun X Y hX hY=>?_|refine vK ?_|refine vT ?_|refine vF [] ?_|refine runS_c [_,_] (l1List_own b kind hd) rfl ?_ ?_ ?_|((first|apply gR|apply gC)<;>intro hq<;>(try simp only [nT,nF,n1,n0] at hq)<;>(have hb:=hq)<;>(try simp only [dT,dF,eT,eF] at hb)<;>first|(exfalso;omega)|((try simp only [hq]);clear hq)))<;>(try simp only [go_sem,qa,qb,qc,qd,qe,qf,qg,qh,qi,qj,qk,ql,qm,qn,qo,qp,qq,qr,qs,reduceIte,reduceCtorEq,Bank.backD,Bank.add,Bank.put,Bank.list,Bank.at,if_pos hd]))|refine Fits.of ?_ ?_|(refine aL ?_ (fun hp=>?_)<;>((try simp only [rowSet_fI hp,rowSet_fI2 hp]);(try simp only [rowSet_fB hp])))|refine aE ?_ fun hp=>?_|refine aC ?_ fun hp=>?_|refine And.intro ?_ ?_|clear hK K)
     all_goals try omega
 · have hd2:kind=2:=by omega
   cases hA:b.backB kind dst sum
   · have hA2:30 < isum b.notes+sum:=by simpa [Bank.backB,hd2] using hA
     clear hk
     refine vO tok Tryz.func198 rfl rfl Tryz.ntmps198 Tryz.results198 rfl (by decide) (fun cx hnt hk0=>?_)
     repeat' (first|refine vS fun K hK=>?_|refine hK _ ?_;clear hK K|refine hX ?_;clear hX hY X Y|((first|refine vR tok (by rw [hnt];rfl) ?_|refine vC fun X Y hX hY=>?_|refine vT ?_|refine vF [] ?_|refine runS_v [] (l1All_ok b.notes q2) ?_ ?_ ?_ ?_ ?_|((first|apply gR|apply gC)<;>intro hq<;>(try simp only [nT,nF,n1,n0] at hq)<;>(have hb:=hq)<;>(try simp only [dT,dF,eT,eF] at hb)<;>first|(exfalso;omega)|((try simp only [hq]);clear hq)))<;>(try simp only [go_sem,qa,qb,qc,qd,qe,qf,qg,qh,qi,qj,qk,ql,qm,qn,qo,qp,qq,qr,qs,reduceIte,reduceCtorEq,Bool.false_eq_true]))|refine Fits.of ?_ ?_|refine And.intro ?_ ?_|clear hK K)
     all_goals try omega
   · have hA2:isum b.notes+sum≤30:=by simpa [Bank.backB,hd2] using hA
     clear hk
     refine vO tok Tryz.func198 rfl rfl Tryz.ntmps198 Tryz.results198 rfl (by decide) (fun cx hnt hk0=>?_)
     repeat' (first|refine vS fun K hK=>?_|refine hK _ ?_;clear hK K|refine hY ?_;clear hX hY X Y|((first|refine vR tok (by rw [hnt];rfl) ?_|refine vC fun X Y hX hY=>?_|refine vK ?_|refine vT ?_|refine vF [] ?_|refine runS_c [_,_] (l1List_note b kind hd) rfl ?_ ?_ ?_|refine runS_v [] (l1All_ok b.notes q2) ?_ ?_ ?_ ?_ ?_|((first|apply gR|apply gC)<;>intro hq<;>(try simp only [nT,nF,n1,n0] at hq)<;>(have hb:=hq)<;>(try simp only [dT,dF,eT,eF] at hb)<;>first|(exfalso;omega)|((try simp only [hq]);clear hq)))<;>(try simp only [go_sem,qa,qb,qc,qd,qe,qf,qg,qh,qi,qj,qk,ql,qm,qn,qo,qp,qq,qr,qs,reduceIte,reduceCtorEq,Bank.backD,Bank.add,Bank.put,Bank.list,Bank.at,if_neg hd]))|refine Fits.of ?_ ?_|(refine aL ?_ (fun hp=>?_)<;>((try simp only [rowSet_fI hp,rowSet_fI2 hp]);(try simp only [rowSet_fB hp])))|refine aE ?_ fun hp=>?_|refine aC ?_ fun hp=>?_|refine And.intro ?_ ?_|clear hK K)
     all_goals try omega
theorem l1Back_no (b:Bank) (kind dst sum:Int) (ok1:b.ok=true) (hs:In dst 1 3=true) (hA:b.backB kind dst sum=false) (h0:0≤sum) (h9:sum≤1000) :
   Call Tryz.prog 198 [.g (bankA b 0),I kind,I dst,I sum] (bankH b 0) 2 (.tup [.g (bankA b 0),BB false]) (bankH b 0) 2:=by
 obtain ⟨q1,q2,q3,q4,q5⟩:=bank_ok ok1
 have q6:=parts_len q1
 have q7:=parts_len q2
 have q11:=parts_all q2
 rw [In_iff] at hs
 by_cases hd:kind=1
 · have hA2:b.locked < sum:=by simpa [Bank.backB,hd] using hA
   refine vO tok Tryz.func198 rfl rfl Tryz.ntmps198 Tryz.results198 rfl (by decide) (fun cx hnt hk0=>?_)
   repeat' (first|refine vS fun K hK=>?_|refine hK _ ?_;clear hK K|refine hX ?_;clear hX hY X Y|((first|refine vR tok (by rw [hnt];rfl) ?_|refine vC fun X Y hX hY=>?_|refine vT ?_|refine vF [] ?_|(apply gR<;>intro hq<;>(try simp only [nT,nF,n1,n0] at hq)<;>(have hb:=hq)<;>(try simp only [dT,dF,eT,eF] at hb)<;>first|(exfalso;omega)|((try simp only [hq]);clear hq)))<;>(try simp only [go_sem,qa,qb,qc,qd,qe,qf,qg,qh,qi,qj,qk,ql,qm,qn,qo,qp,qq,qr,qs,reduceIte,reduceCtorEq])))
   all_goals omega
 · have hd2:kind=2:=by
     by_cases h:kind=2
     · exact h
     · simp [Bank.backB,hd,h] at hA
   have hA2:30 < isum b.notes+sum:=by simpa [Bank.backB,hd2] using hA
   refine vO tok Tryz.func198 rfl rfl Tryz.ntmps198 Tryz.results198 rfl (by decide) (fun cx hnt hk0=>?_)
   repeat' (first|refine vS fun K hK=>?_|refine hK _ ?_;clear hK K|refine hX ?_;clear hX hY X Y|((first|refine vR tok (by rw [hnt];rfl) ?_|refine vC fun X Y hX hY=>?_|refine vT ?_|refine vF [] ?_|refine runS_v [] (l1All_ok b.notes q2) ?_ ?_ ?_ ?_ ?_|((first|apply gR|apply gC)<;>intro hq<;>(try simp only [nT,nF,n1,n0] at hq)<;>(have hb:=hq)<;>(try simp only [dT,dF,eT,eF] at hb)<;>first|(exfalso;omega)|((try simp only [hq]);clear hq)))<;>(try simp only [go_sem,qa,qb,qc,qd,qe,qf,qg,qh,qi,qj,qk,ql,qm,qn,qo,qp,qq,qr,qs,reduceIte,reduceCtorEq]))|refine Fits.of ?_ ?_|refine And.intro ?_ ?_|clear hK K)
   all_goals omega
theorem rle_snoc {H:Heap} {fz:Nat→Prop} {τ:List (Nat × Nat)} {N:Nat} {l:List State} {s:State} {c0 c1 c2 c3 c4 c5 c6:Cell}
   (h:cle H fz τ N c0 (.t (s.tv 0))∧cle H fz τ N c1 (.t (s.tv 1))∧cle H fz τ N c2 (.t (s.tv 2))∧cle H fz τ N c3 (.t (s.tv 3))∧cle H fz τ N c4 (.t (s.tv 4))∧cle H fz τ N c5 (.t (s.tv 5))∧cle H fz τ N c6 (.t (s.tv 6))) :
   rle H fz τ N 7 (l.length+1) (app l.length (fS l) (rowOf 7 [c0,c1,c2,c3,c4,c5,c6])) (fS (l++[s])):=by
 intro i hi j hj
 by_cases hl:i < l.length
 · have e1:app l.length (fS l) (rowOf 7 [c0,c1,c2,c3,c4,c5,c6]) i j=.t ((l.getD i default).tv j):=by simp [app,hl,fS]
   have e2:fS (l++[s]) i j=.t ((l.getD i default).tv j):=by simp [fS,List.getD,List.getElem?_append,hl]
   rw [e1,e2];simp [cle_t,tof_t,tle_refl]
 · have hi':i=l.length:=by omega
   subst hi'
   have e2:fS (l++[s]) l.length j=.t (s.tv j):=by simp [fS,List.getD]
   have e1:app l.length (fS l) (rowOf 7 [c0,c1,c2,c3,c4,c5,c6]) l.length j=rowOf 7 [c0,c1,c2,c3,c4,c5,c6] 0 j:=by simp [app]
   rw [e1,e2]
   obtain ⟨h0,h1,h2,h3,h4,h5,h6⟩:=h
   match j,hj with
   | 0,_=>exact h0
   | 1,_=>exact h1
   | 2,_=>exact h2
   | 3,_=>exact h3
   | 4,_=>exact h4
   | 5,_=>exact h5
   | 6,_=>exact h6
theorem l12Block_ok (c:Chain) (hc:c.ok=true):Call Tryz.prog 113 [.g (chainA c 0)] (chainH c 0) 8 (.o (.g (chainA c.block 8))) (chainH c.block 8) 16:=by
 obtain ⟨q1,q2,q3,q4,q5,q6⟩:=chain_ok hc
 obtain ⟨r1,r2,r3,r4,r5,r6,r7,r8,r9⟩:=state_ok q3
 unfold Chain.block
 by_cases hd:(c.past.length:Int) < 90
 · rw [if_pos hd]
   refine vO tok Tryz.func113 rfl rfl Tryz.ntmps113 Tryz.results113 rfl (by decide) (fun cx hnt hk0=>?_)


   repeat' (first|refine vS fun K hK=>?_|refine hK _ ?_;clear hK K|refine hX ?_;clear hX hY X Y|((first|refine vR tok (by rw [hnt];rfl) ?_|refine vC fun X Y hX hY=>?_|refine vT ?_|refine vF [10,11,12,13] ?_|(refine AWp.draw (id:=2) tok mixed (.tak 0 (.tak 2 (.all (.cons 1 (.all (.cons 3 (.all (.cons 4 (.all (.cons 5 (.all (.cons 6 (.tak 7 (.all (.cons 8 .done .nil))) .nil)) .nil)) .nil)) .nil)) (.cons 3 (.all (.cons 1 (.all (.cons 4 (.all (.cons 5 (.all (.cons 6 (.tak 7 (.all (.cons 8 .done .nil))) .nil)) .nil)) .nil)) (.cons 4 (.all (.cons 1 (.all (.cons 5 (.all (.cons 6 (.tak 7 (.all (.cons 8 .done .nil))) .nil)) .nil)) (.cons 5 (.all (.cons 1 (.all (.cons 6 (.tak 7 (.all (.cons 8 .done .nil))) .nil)) .nil)) .nil))) .nil))) .nil))))) [] [1] (by kernel_rfl) (by kernel_rfl) (by rw [hnt];rfl) ?_)|(refine effS_v [] (l3Copy_ok c.state (by omega) (by omega) (by omega) (by omega)) ?_ ?_ ?_ ?_ ?_)|(apply gC<;>intro hq<;>(try simp only [nT,nF,n1,n0] at hq)<;>(have hb:=hq)<;>(try simp only [dT,dF,eT,eF] at hb)<;>first|(exfalso;omega)|((try simp only [hq]);clear hq)))<;>(try simp only [go_sem,qa,qb,qc,qd,qe,qf,qg,qh,qi,qj,qk,ql,qm,qn,qo,qp,qq,qr,qs,reduceIte,reduceCtorEq]))|refine aE ?_ fun hp=>?_|refine And.intro ?_ ?_|clear hK K)
   all_goals first|omega|refine rle_snoc ?_;simp only [go_sem,qa,qb,qc,qd,qe,qf,qg,qh,qi,qj,qk,ql,qm,qn,qo,qp,qq,qr,qs,reduceIte,reduceCtorEq]|skip

 · rw [if_neg hd]
   refine vO tok Tryz.func113 rfl rfl Tryz.ntmps113 Tryz.results113 rfl (by decide) (fun cx hnt hk0=>?_)

   repeat' (first|refine vS fun K hK=>?_|refine hK _ ?_;clear hK K|refine hY ?_;clear hX hY X Y|((first|refine vR tok (by rw [hnt];rfl) ?_|refine vC fun X Y hX hY=>?_|refine vK ?_|refine vT ?_|refine vF [] ?_|(apply gC<;>intro hq<;>(try simp only [nT,nF,n1,n0] at hq)<;>(have hb:=hq)<;>(try simp only [dT,dF,eT,eF] at hb)<;>first|(exfalso;omega)|((try simp only [hq]);clear hq)))<;>(try simp only [go_sem,qa,qb,qc,qd,qe,qf,qg,qh,qi,qj,qk,ql,qm,qn,qo,qp,qq,qr,qs,reduceIte,reduceCtorEq])))
   all_goals first|omega|refine rle_snoc ?_;simp only [go_sem,qa,qb,qc,qd,qe,qf,qg,qh,qi,qj,qk,ql,qm,qn,qo,qp,qq,qr,qs,reduceIte,reduceCtorEq]|skip

def payD (b:Bank) (p:Packet):Bank:=if payB b p then b.backD (otherK p.kind) p.dst p.sum else b
def payN (b:Bank) (p:Packet):Int:=if payB b p then 1 else 2
theorem packet_ok {p:Packet} (h:p.ok=true):(1≤p.seq∧p.seq≤8)∧(1≤p.kind∧p.kind≤2)∧(1≤p.src∧p.src≤3)∧(0≤p.dst∧p.dst≤3)∧(1≤p.sum∧p.sum≤9)∧(1≤p.till∧p.till≤90)∧(1≤p.ver∧p.ver≤9):=by
 simpa only [Packet.ok,Bool.and_eq_true,In_iff] using h
theorem l13Pay_ok (b:Bank) (p:Packet) (ok1:b.ok=true) (ok2:p.ok=true):Call Tryz.prog 188 [.g (bankA b 0),p.av] (bankH b 0) 2 (.tup [.g (bankA (payD b p) 2),I (payN b p)]) (bankH (payD b p) 2) 4:=by
 obtain ⟨p1,p2,p3,p4,p5,p6,p7⟩:=packet_ok ok2
 by_cases h0:p.dst=0
 · have e:payB b p=false:=by simp [payB,h0]
   have e1:payD b p=b:=by simp [payD,e]
   have e2:payN b p=2:=by simp [payN,e]
   rw [e1,e2]
   refine vO tok Tryz.func188 rfl rfl Tryz.ntmps188 Tryz.results188 rfl (by decide) (fun cx hnt hk0=>?_)
   repeat' (first|refine vS fun K hK=>?_|refine hK _ ?_;clear hK K|refine hX ?_;clear hX hY X Y|refine hY ?_;clear hX hY X Y|((first|refine vR tok (by rw [hnt];rfl) ?_|refine vC fun X Y hX hY=>?_|refine vK ?_|refine vT ?_|refine vF [] ?_|(apply gC<;>intro hq<;>(try simp only [nT,nF,n1,n0] at hq)<;>(have hb:=hq)<;>(try simp only [dT,dF,eT,eF] at hb)<;>first|(exfalso;omega)|((try simp only [hq]);clear hq)))<;>(try simp only [go_sem,qa,qb,qc,qd,qe,qf,qg,qh,qi,qj,qk,ql,qm,qn,qo,qp,qq,qr,qs,reduceIte,reduceCtorEq])))
 · have hk:In (otherK p.kind) 1 2=true:=by rw [In_iff];unfold otherK;split<;>omega
   have hs:In p.dst 1 3=true:=by rw [In_iff];omega
   have e1:payD b p=b.back (otherK p.kind) p.dst p.sum:=by simp [payD,payB,h0,Bank.back]
   have e2:payN b p=if b.backB (otherK p.kind) p.dst p.sum then 1 else 2:=by simp [payN,payB,h0]
   rw [e1,e2]
   by_cases h2:p.kind=2
   · have e3:otherK p.kind=1:=by simp [otherK,h2]
     rw [e3] at hk ⊢
     cases e4:b.backB 1 p.dst p.sum
     · have e5:b.back 1 p.dst p.sum=b:=by simp [Bank.back,e4]
       refine vO tok Tryz.func188 rfl rfl Tryz.ntmps188 Tryz.results188 rfl (by decide) (fun cx hnt hk0=>?_)
       repeat' (first|refine vS fun K hK=>?_|refine hK _ ?_;clear hK K|refine hX ?_;clear hX hY X Y|refine hY ?_;clear hX hY X Y|((first|refine vR tok (by rw [hnt];rfl) ?_|refine vC fun X Y hX hY=>?_|refine vK ?_|refine vT ?_|refine vF [] ?_|(refine runS_c [_,_] (l1Back_no b 1 p.dst p.sum ok1 hs e4 (by omega) (by omega)) rfl ?_ ?_ ?_)|(apply gC<;>intro hq<;>(try simp only [nT,nF,n1,n0] at hq)<;>(have hb:=hq)<;>(try simp only [dT,dF,eT,eF] at hb)<;>first|(exfalso;omega)|((try simp only [hq]);clear hq)))<;>(try simp only [go_sem,qa,qb,qc,qd,qe,qf,qg,qh,qi,qj,qk,ql,qm,qn,qo,qp,qq,qr,qs,reduceIte,reduceCtorEq,e4,e5,Bool.false_eq_true])))

     · refine vO tok Tryz.func188 rfl rfl Tryz.ntmps188 Tryz.results188 rfl (by decide) (fun cx hnt hk0=>?_)
       repeat' (first|refine vS fun K hK=>?_|refine hK _ ?_;clear hK K|refine hX ?_;clear hX hY X Y|refine hY ?_;clear hX hY X Y|((first|refine vR tok (by rw [hnt];rfl) ?_|refine vC fun X Y hX hY=>?_|refine vK ?_|refine vT ?_|refine vF [] ?_|(refine runS_c [_,_] (l1Back_ok b 1 p.dst p.sum ok1 hs hk (by omega) (by omega)) rfl ?_ ?_ ?_)|(apply gC<;>intro hq<;>(try simp only [nT,nF,n1,n0] at hq)<;>(have hb:=hq)<;>(try simp only [dT,dF,eT,eF] at hb)<;>first|(exfalso;omega)|((try simp only [hq]);clear hq)))<;>(try simp only [go_sem,qa,qb,qc,qd,qe,qf,qg,qh,qi,qj,qk,ql,qm,qn,qo,qp,qq,qr,qs,reduceIte,reduceCtorEq,e4])))

   · have e3:otherK p.kind=2:=by simp [otherK,h2]
     rw [e3] at hk ⊢
     cases e4:b.backB 2 p.dst p.sum
     · have e5:b.back 2 p.dst p.sum=b:=by simp [Bank.back,e4]
       refine vO tok Tryz.func188 rfl rfl Tryz.ntmps188 Tryz.results188 rfl (by decide) (fun cx hnt hk0=>?_)
       repeat' (first|refine vS fun K hK=>?_|refine hK _ ?_;clear hK K|refine hX ?_;clear hX hY X Y|refine hY ?_;clear hX hY X Y|((first|refine vR tok (by rw [hnt];rfl) ?_|refine vC fun X Y hX hY=>?_|refine vK ?_|refine vT ?_|refine vF [] ?_|(refine runS_c [_,_] (l1Back_no b 2 p.dst p.sum ok1 hs e4 (by omega) (by omega)) rfl ?_ ?_ ?_)|(apply gC<;>intro hq<;>(try simp only [nT,nF,n1,n0] at hq)<;>(have hb:=hq)<;>(try simp only [dT,dF,eT,eF] at hb)<;>first|(exfalso;omega)|((try simp only [hq]);clear hq)))<;>(try simp only [go_sem,qa,qb,qc,qd,qe,qf,qg,qh,qi,qj,qk,ql,qm,qn,qo,qp,qq,qr,qs,reduceIte,reduceCtorEq,e4,e5,Bool.false_eq_true])))

     · refine vO tok Tryz.func188 rfl rfl Tryz.ntmps188 Tryz.results188 rfl (by decide) (fun cx hnt hk0=>?_)
       repeat' (first|refine vS fun K hK=>?_|refine hK _ ?_;clear hK K|refine hY ?_;clear hX hY X Y|((first|refine vR tok (by rw [hnt];rfl) ?_|refine vC fun X Y hX hY=>?_|refine vK ?_|refine vT ?_|refine vF [] ?_|(refine runS_c [_,_] (l1Back_ok b 2 p.dst p.sum ok1 hs hk (by omega) (by omega)) rfl ?_ ?_ ?_)|(apply gC<;>intro hq<;>(try simp only [nT,nF,n1,n0] at hq)<;>(have hb:=hq)<;>(try simp only [dT,dF,eT,eF] at hb)<;>first|(exfalso;omega)|((try simp only [hq]);clear hq)))<;>(try simp only [go_sem,qa,qb,qc,qd,qe,qf,qg,qh,qi,qj,qk,ql,qm,qn,qo,qp,qq,qr,qs,reduceIte,reduceCtorEq,e4])))

def Chain.sendN (c:Chain) (kind src dst sum till:Int):Int:=if c.sendB kind src dst sum till then c.state.sent.length+1 else 0
theorem l12Send_ok (c:Chain) (kind src dst sum till:Int) (ok1:c.ok=true):Call Tryz.prog 115 [.g (chainA c 0),I kind,I src,I dst,I sum,I till] (chainH c 0) 8
   (.tup [.g (chainA (c.send kind src dst sum till) 8),I (c.sendN kind src dst sum till),BB (c.sendB kind src dst sum till)]) (chainH (c.send kind src dst sum till) 8) 16:=by
 obtain ⟨q1,q2,q3,q4,q5,q6⟩:=chain_ok ok1
 obtain ⟨r1,r2,r3,r4,r5,r6,r7,r8,r9⟩:=state_ok q3
 obtain ⟨b1,b2,b3,b4,b5⟩:=bank_ok q2
 by_cases hw:c.state.way=3
 · cases ep:(c.packet kind src dst sum till).ok
   · have e:c.sendB kind src dst sum till=false:=by simp [Chain.sendB,ep]
     have e1:c.send kind src dst sum till=c:=by simp [Chain.send,e]
     have e2:c.sendN kind src dst sum till=0:=by simp [Chain.sendN,e]
     rw [e1,e2,e]
     refine vO tok Tryz.func115 rfl rfl Tryz.ntmps115 Tryz.results115 rfl (by decide) (fun cx hnt hk0=>?_)

     repeat' (first|refine vS fun K hK=>?_|refine hK _ ?_;clear hK K|refine hX ?_;clear hX hY X Y|((first|refine vR tok (by rw [hnt];rfl) ?_|refine vC fun X Y hX hY=>?_|refine vT ?_|refine vF [] ?_|(refine runS_c [] (PacketOk_ok (c.packet kind src dst sum till)) rfl ?_ ?_ ?_)|(apply gR<;>intro hq<;>(try simp only [nT,nF,n1,n0] at hq)<;>(have hb:=hq)<;>(try simp only [dT,dF,eT,eF] at hb)<;>first|(exfalso;omega)|((try simp only [hq]);clear hq)))<;>(try simp only [go_sem,qa,qb,qc,qd,qe,qf,qg,qh,qi,qj,qk,ql,qm,qn,qo,qp,qq,qr,qs,reduceIte,reduceCtorEq,ep]))|refine Fits.of ?_ ?_|refine And.intro ?_ ?_|clear hK K)
     all_goals omega
   · obtain ⟨p1,p2,p3,p4,p5,p6,p7⟩:=packet_ok ep
     simp only [Chain.packet] at p1 p2 p3 p4 p5 p6 p7
     have ep2:=ep
     simp only [Chain.packet] at ep2
     have hs:In src 1 3=true:=by rw [In_iff];exact p3
     cases eA:c.bank.awayB kind src sum
     · have e:c.sendB kind src dst sum till=false:=by simp [Chain.sendB,eA]
       have e1:c.send kind src dst sum till=c:=by simp [Chain.send,e]
       have e2:c.sendN kind src dst sum till=0:=by simp [Chain.sendN,e]
       rw [e1,e2,e]
       refine vO tok Tryz.func115 rfl rfl Tryz.ntmps115 Tryz.results115 rfl (by decide) (fun cx hnt hk0=>?_)

       repeat' (first|refine vS fun K hK=>?_|refine hK _ ?_;clear hK K|refine hX ?_;clear hX hY X Y|refine hY ?_;clear hX hY X Y|((first|refine vR tok (by rw [hnt];rfl) ?_|refine vC fun X Y hX hY=>?_|refine vK ?_|refine vT ?_|refine vF [] ?_|(refine runS_c [] (PacketOk_ok (c.packet kind src dst sum till)) rfl ?_ ?_ ?_)|refine runS_c [_,_] (l1Away_no c.bank kind src sum q2 hs eA) rfl ?_ ?_ ?_|(apply gR<;>intro hq<;>(try simp only [nT,nF,n1,n0] at hq)<;>(have hb:=hq)<;>(try simp only [dT,dF,eT,eF] at hb)<;>first|(exfalso;omega)|((try simp only [hq]);clear hq)))<;>(try simp only [go_sem,qa,qb,qc,qd,qe,qf,qg,qh,qi,qj,qk,ql,qm,qn,qo,qp,qq,qr,qs,reduceIte,reduceCtorEq,ep,eA]))|refine Fits.of ?_ ?_|refine And.intro ?_ ?_|clear hK K)
       all_goals omega
     · have e:c.sendB kind src dst sum till=true:=by simp [Chain.sendB,eA,ep,hw]
       have e1:c.send kind src dst sum till=c.sendD kind src dst sum till:=by simp [Chain.send,e]
       have e2:c.sendN kind src dst sum till=c.state.sent.length+1:=by simp [Chain.sendN,e]
       have e3:c.bank.away kind src sum=c.bank.awayD kind src sum:=by simp [Bank.away,eA]
       rw [e1,e2,e]
       refine vO tok Tryz.func115 rfl rfl Tryz.ntmps115 Tryz.results115 rfl (by decide) (fun cx hnt hk0=>?_)

       repeat' (first|refine vS fun K hK=>?_|refine hK _ ?_;clear hK K|refine hY ?_;clear hX hY X Y|((first|refine vR tok (by rw [hnt];rfl) ?_|refine vC fun X Y hX hY=>?_|refine vK ?_|refine vT ?_|refine vF [] ?_|(refine runS_c [] (PacketOk_ok (c.packet kind src dst sum till)) rfl ?_ ?_ ?_)|(refine runS_c [_,_] (l1Away_ok c.bank kind src sum q2 hs (by omega) (by omega)) rfl ?_ ?_ ?_)|(refine AWp.draw (id:=11) tok mixed (.tak 0 (.tak 1 (.tak 2 (.all (.cons 3 (.tak 4 (.tak 5 .done)) .nil))))) [8,10] [6,12,15] (by kernel_rfl) (by kernel_rfl) (by rw [hnt];rfl) ?_)|(apply gR<;>intro hq<;>(try simp only [nT,nF,n1,n0] at hq)<;>(have hb:=hq)<;>(try simp only [dT,dF,eT,eF] at hb)<;>first|(exfalso;omega)|((try simp only [hq]);clear hq)))<;>(try simp only [go_sem,qa,qb,qc,qd,qe,qf,qg,qh,qi,qj,qk,ql,qm,qn,qo,qp,qq,qr,qs,reduceIte,reduceCtorEq,ep2,eA,e3,Chain.sendD,Chain.packet]))|refine Fits.of ?_ ?_|refine aE ?_ fun hp=>?_|refine And.intro ?_ ?_|clear hK K)
       all_goals first|omega
 · have e:c.sendB kind src dst sum till=false:=by simp [Chain.sendB,hw]
   have e1:c.send kind src dst sum till=c:=by simp [Chain.send,e]
   have e2:c.sendN kind src dst sum till=0:=by simp [Chain.sendN,e]
   rw [e1,e2,e]
   refine vO tok Tryz.func115 rfl rfl Tryz.ntmps115 Tryz.results115 rfl (by decide) (fun cx hnt hk0=>?_)

   repeat' (first|refine vS fun K hK=>?_|refine hK _ ?_;clear hK K|refine hX ?_;clear hX hY X Y|((first|refine vR tok (by rw [hnt];rfl) ?_|refine vC fun X Y hX hY=>?_|refine vT ?_|refine vF [] ?_|(apply gR<;>intro hq<;>(try simp only [nT,nF,n1,n0] at hq)<;>(have hb:=hq)<;>(try simp only [dT,dF,eT,eF] at hb)<;>first|(exfalso;omega)|((try simp only [hq]);clear hq)))<;>(try simp only [go_sem,qa,qb,qc,qd,qe,qf,qg,qh,qi,qj,qk,ql,qm,qn,qo,qp,qq,qr,qs,reduceIte,reduceCtorEq]))|refine Fits.of ?_ ?_|refine And.intro ?_ ?_|clear hK K)
   all_goals omega
theorem liveN_take (l:List Bool) (i:Nat) (h:i < l.length):liveN (l.take (i+1))=liveN (l.take i)+(if l.getD i false=true then 1 else 0):=by
 unfold liveN
 rw [List.take_succ,List.filter_append,List.length_append]
 simp [List.getD,h]
 cases l[i]<;>simp
theorem liveN_le (l:List Bool):liveN l≤l.length:=List.length_filter_le _ _
theorem l3Live_ok (s:State) (h:s.live.length≤1000):Call Tryz.prog 186 [s.av] [] 0 (.o (I s.lives)) [] 0:=by
 refine vO tok Tryz.func186 rfl rfl Tryz.ntmps186 Tryz.results186 rfl (by decide) (fun cx hnt hk0=>?_)
 repeat' (first|refine vS fun K hK=>?_|refine hK _ ?_;clear hK K|refine vB ?_|((refine vR tok (by rw [hnt];rfl) ?_)<;>(try simp only [go_sem,qa,qb,qc,qd,qe,qf,qg,qh,qi,qj,qk,ql,qm,qn,qo,qp,qq,qr,qs,reduceIte,reduceCtorEq])))
 refine AWp.loop (fun i:Nat=>⟨[(1,.o (.c (.ptr 0 0 0 0))),(3,.o (I (liveN (s.live.take i)))),(4,.o (I i))],[(0,s.box)],1⟩) (fun i=>i≤s.live.length) (fun i=>s.live.length - i) 0 (Nat.zero_le _) ?_ ?_
 · refine vL hk0 [] ?_;simp only [go_sem,qa,qb,qc,qd,qe,qf,qg,qh,qi,qj,qk,ql,qm,qn,qo,qp,qq,qr,qs,reduceIte,reduceCtorEq,List.take_zero,liveN,List.filter_nil]
   simp
 intro i hi
 have h1:=liveN_le (s.live.take i)
 rw [List.length_take] at h1
 repeat' (first|refine vS fun K hK=>?_|refine hK _ ?_;clear hK K|refine hX ?_;clear hX hY X Y|refine hY ?_;clear hX hY X Y|refine vB ?_|((first|refine vR tok (by rw [hnt];rfl) ?_|refine vC fun X Y hX hY=>?_|refine vK ?_|refine vE ?_|refine vT ?_|refine vF [] ?_|refine vL hk0 [] ?_|(apply gC<;>intro hq<;>(try simp only [nT,nF,n1,n0] at hq)<;>(have hb:=hq)<;>(try simp only [dT,dF,eT,eF] at hb)<;>first|(exfalso;omega)|((try simp only [hq]);clear hq)))<;>(try simp only [go_sem,qa,qb,qc,qd,qe,qf,qg,qh,qi,qj,qk,ql,qm,qn,qo,qp,qq,qr,qs,reduceIte,reduceCtorEq]))|refine ⟨i+1,?_,?_,?_⟩|refine Fits.of ?_ ?_|refine aE ?_ fun hp=>?_|refine aC ?_ fun hp=>?_|refine And.intro ?_ ?_|clear hK K)
 all_goals try (first|omega|(simp only [dA,dB,dC];omega))
 · rw [liveN_take _ _ (by omega),if_pos hb];simp
 · rw [liveN_take _ _ (by omega),if_neg (by simpa using hb)];simp
 · rw [State.lives,show i=s.live.length from by omega,List.take_length]
theorem l3Has_ok (s:State) (p:Packet) (h1:s.sent.length≤1000) (h2:s.live.length=s.sent.length):Call Tryz.prog 187 [s.av,p.av] [] 0 (.o (BB (s.hasB p))) [] 0:=by
 refine vO tok Tryz.func187 rfl rfl Tryz.ntmps187 Tryz.results187 rfl (by decide) (fun cx hnt hk0=>?_)

 repeat' (first|refine vS fun K hK=>?_|refine hK _ ?_;clear hK K|((first|refine vR tok (by rw [hnt];rfl) ?_|refine vT ?_|refine vF [] ?_|(refine AWp.draw (id:=1) tok mixed (.tak 0 (.tak 1 (.tak 2 (.tak 3 (.tak 4 (.all (.cons 5 (.tak 6 (.tak 7 (.tak 8 (.tak 9 (.tak 10 (.tak 11 (.tak 12 (.tak 13 (.tak 14 (.tak 15 (.tak 16 (.tak 17 (.tak 18 (.tak 19 (.tak 20 (.tak 21 (.tak 22 (.tak 23 (.tak 24 (.tak 25 (.tak 26 .done))))))))))))))))))))) .nil))))))) [0,1] [2,3] (by kernel_rfl) (by kernel_rfl) (by rw [hnt];rfl) ?_)|refine effS_c [] (l6In_ok _ _ _) rfl ?_ ?_ ?_|(apply gT<;>intro hq<;>(try simp only [nT,nF,n1,n0] at hq)<;>(have hb:=hq)<;>(try simp only [dT,dF,eT,eF] at hb)<;>first|(exfalso;omega)|((try simp only [hq]);clear hq)))<;>(try simp only [go_sem,qa,qb,qc,qd,qe,qf,qg,qh,qi,qj,qk,ql,qm,qn,qo,qp,qq,qr,qs,reduceIte,reduceCtorEq]))|refine Fits.of ?_ ?_|refine aE ?_ fun hp=>?_|refine aC ?_ fun hp=>?_|refine And.intro ?_ ?_|clear hK K)
 all_goals try (simp only [In_iff] at *;omega)
 all_goals (unfold State.hasB;generalize (p.seq - 1).toNat=q at *
            simp only [Bool.and_eq_true,Bool.and_eq_false_iff,decide_eq_true_eq,decide_eq_false_iff_not,Packet.eq_iff] at *
            first|(simp [-List.getD_eq_getElem?_getD, *];done)|(simp [-List.getD_eq_getElem?_getD, *];grind))
theorem l13Mine_ok (c:Chain) (seq:Int) (h1:c.state.sent.length≤1000) (h2:c.state.live.length=c.state.sent.length):Call Tryz.prog 189 [c.av,I seq] [] 0 (.o (BB (c.mine seq))) [] 0:=by
 refine vO tok Tryz.func189 rfl rfl Tryz.ntmps189 Tryz.results189 rfl (by decide) (fun cx hnt hk0=>?_)
 repeat' (first|refine vS fun K hK=>?_|refine hK _ ?_;clear hK K|((first|refine vR tok (by rw [hnt];rfl) ?_|refine vT ?_|refine vF [] ?_|refine runS_c [] (l6In_ok _ _ _) rfl ?_ ?_ ?_|(apply gR<;>intro hq<;>(try simp only [nT,nF,n1,n0] at hq)<;>(have hb:=hq)<;>(try simp only [dT,dF,eT,eF] at hb)<;>first|(exfalso;omega)|((try simp only [hq]);clear hq)))<;>(try simp only [go_sem,qa,qb,qc,qd,qe,qf,qg,qh,qi,qj,qk,ql,qm,qn,qo,qp,qq,qr,qs,reduceIte,reduceCtorEq]))|refine Fits.of ?_ ?_|refine aE ?_ fun hp=>?_|refine aC ?_ fun hp=>?_|refine And.intro ?_ ?_|clear hK K)
 all_goals try (simp only [In_iff] at *;omega)
 all_goals simp [-List.getD_eq_getElem?_getD,Chain.mine, *]
theorem l21Among_ok (l:List Int) (n:Int) (h1:l.length≤1000):Call Tryz.prog 155 [.c (.t (intsT l)),I n] [] 0 (.o (BB (l.contains n))) [] 0:=by
 refine vO tok Tryz.func155 rfl rfl Tryz.ntmps155 Tryz.results155 rfl (by decide) (fun cx hnt hk0=>?_)
 repeat' (first|refine vS fun K hK=>?_|refine hK _ ?_;clear hK K|refine vB ?_|((refine vR tok (by rw [hnt];rfl) ?_)<;>(try simp only [go_sem,qa,qb,qc,qd,qe,qf,qg,qh,qi,qj,qk,ql,qm,qn,qo,qp,qq,qr,qs,reduceIte,reduceCtorEq])))
 refine AWp.loop (fun i:Nat=>⟨[(0,.o (.c (.t (intsT l)))),(1,.o (I n)),(5,.o (I i))],[],0⟩) (fun i=>i≤l.length∧∀ j,j < i→l.getD j 0 ≠ n) (fun i=>l.length - i) 0 ⟨Nat.zero_le _,fun j hj=>absurd hj (Nat.not_lt_zero j)⟩ ?_ ?_
 · refine vL hk0 [] ?_;simp only [go_sem,qa,qb,qc,qd,qe,qf,qg,qh,qi,qj,qk,ql,qm,qn,qo,qp,qq,qr,qs,reduceIte,reduceCtorEq]
   simp
 intro i ⟨hi,hr⟩
 repeat' (first|refine vS fun K hK=>?_|refine hK _ ?_;clear hK K|refine hX ?_;clear hX hY X Y|refine hY ?_;clear hX hY X Y|refine vB ?_|((first|refine vR tok (by rw [hnt];rfl) ?_|refine vC fun X Y hX hY=>?_|refine vK ?_|refine vE ?_|refine vT ?_|refine vF [] ?_|refine vL hk0 [] ?_|(apply gC<;>intro hq<;>(try simp only [nT,nF,n1,n0] at hq)<;>(have hb:=hq)<;>(try simp only [dT,dF,eT,eF] at hb)<;>first|(exfalso;omega)|((try simp only [hq]);clear hq)))<;>(try simp only [go_sem,qa,qb,qc,qd,qe,qf,qg,qh,qi,qj,qk,ql,qm,qn,qo,qp,qq,qr,qs,reduceIte,reduceCtorEq]))|refine ⟨i+1,?_,?_,?_⟩|refine Fits.of ?_ ?_|refine aE ?_ fun hp=>?_|refine aC ?_ fun hp=>?_|refine And.intro ?_ ?_|clear hK K)
 all_goals try (first|omega|(simp only [dA,dB,dC];omega))
 · exact (contains_true (by omega) hb).symm
 · intro j hj
   rcases Nat.lt_succ_iff_lt_or_eq.1 hj with h'|rfl
   · exact hr j h'
   · exact hb
 · exact (contains_false fun j hj=>hr j (by omega)).symm
theorem l11May_ok (s o:State) (step:Int) (h1:s.live.length≤1000) (h2:o.live.length≤1000) (h3:s.ver≤1000) (h4:0≤s.ver):Call Tryz.prog 158 [s.av,o.av,I step] [] 0 (.o (BB (wayMay s o step))) [] 0:=by
 refine vO tok Tryz.func158 rfl rfl Tryz.ntmps158 Tryz.results158 rfl (by decide) (fun cx hnt hk0=>?_)
 repeat' (first|refine vS fun K hK=>?_|refine hK _ ?_;clear hK K|refine hX ?_;clear hX hY X Y|refine hY ?_;clear hX hY X Y|refine vB ?_|((first|refine vR tok (by rw [hnt];rfl) ?_|refine vC fun X Y hX hY=>?_|refine vK ?_|refine vT ?_|refine vF [] ?_|refine runS_c [] (l3Live_ok s h1) rfl ?_ ?_ ?_|refine runS_c [] (l3Live_ok o h2) rfl ?_ ?_ ?_|((first|apply gR|apply gC)<;>intro hq<;>(try simp only [nT,nF,n1,n0] at hq)<;>(have hb:=hq)<;>(try simp only [dT,dF,eT,eF] at hb)<;>first|(exfalso;omega)|((try simp only [hq]);clear hq)))<;>(try simp only [go_sem,qa,qb,qc,qd,qe,qf,qg,qh,qi,qj,qk,ql,qm,qn,qo,qp,qq,qr,qs,reduceIte,reduceCtorEq]))|refine Fits.of ?_ ?_|refine And.intro ?_ ?_|clear hK K)
 all_goals first|omega|(simp [wayMay, *];done)|(simp [wayMay, *];intros;exfalso;omega)
theorem l11Do_ok (s o:State) (step:Int) (h3:s.ver≤1000) (h4:0≤s.ver):Call Tryz.prog 159 [.g (stateA s 0),o.av,I step] [] 4 (.o (.g (stateA (wayDo s o step) 0))) [] 4:=by
 refine vO tok Tryz.func159 rfl rfl Tryz.ntmps159 Tryz.results159 rfl (by decide) (fun cx hnt hk0=>?_)
 repeat' (first|refine vS fun K hK=>?_|refine hK _ ?_;clear hK K|refine hX ?_;clear hX hY X Y|refine hY ?_;clear hX hY X Y|refine vB ?_|((first|refine vR tok (by rw [hnt];rfl) ?_|refine vC fun X Y hX hY=>?_|refine vK ?_|refine vT ?_|refine vF [] ?_|(apply gC<;>intro hq<;>(try simp only [nT,nF,n1,n0] at hq)<;>(have hb:=hq)<;>(try simp only [dT,dF,eT,eF] at hb)<;>first|(exfalso;omega)|((try simp only [hq]);clear hq)))<;>(try simp only [go_sem,qa,qb,qc,qd,qe,qf,qg,qh,qi,qj,qk,ql,qm,qn,qo,qp,qq,qr,qs,reduceIte,reduceCtorEq]))|refine Fits.of ?_ ?_|refine And.intro ?_ ?_|clear hK K)
 all_goals first|omega|simp [wayDo, *]
theorem wayDo_rows (s o:State) (n:Int):(wayDo s o n).sent=s.sent∧(wayDo s o n).live=s.live∧(wayDo s o n).back=s.back∧(wayDo s o n).got=s.got:=by
 unfold wayDo
 refine ⟨?_,?_,?_,?_⟩<;>(repeat' split)<;>rfl
theorem l13Step_ok (c:Chain) (s:State) (n:Int) (ok1:c.ok=true) (ok2:s.ok=true):Call Tryz.prog 117 [.g (chainA c 0),s.av,I n] (chainH c 0) 8 (.tup [.g (chainA (c.step s n) 0),BB (wayMay c.state s n)]) (chainH (c.step s n) 0) 8:=by
 obtain ⟨q1,q2,q3,q4,q5,q6⟩:=chain_ok ok1
 obtain ⟨r1,r2,r3,r4,r5,r6,r7,r8,r9⟩:=state_ok q3
 obtain ⟨t1,t2,t3,t4,t5,t6,t7,t8,t9⟩:=state_ok ok2
 cases e:wayMay c.state s n
 · have e1:c.step s n=c:=by simp [Chain.step,e]
   rw [e1]
   refine vO tok Tryz.func117 rfl rfl Tryz.ntmps117 Tryz.results117 rfl (by decide) (fun cx hnt hk0=>?_)
   repeat' (first|refine vS fun K hK=>?_|refine hK _ ?_;clear hK K|refine hX ?_;clear hX hY X Y|((first|refine vR tok (by rw [hnt];rfl) ?_|refine vC fun X Y hX hY=>?_|refine vT ?_|refine vF [] ?_|(refine runS_v [] (l11May_ok c.state s n (by omega) (by omega) (by omega) (by omega)) ?_ ?_ ?_ ?_ ?_))<;>(try simp only [go_sem,qa,qb,qc,qd,qe,qf,qg,qh,qi,qj,qk,ql,qm,qn,qo,qp,qq,qr,qs,reduceIte,reduceCtorEq,e])))
   all_goals first|omega
 · have e1:c.step s n={ c with state:=wayDo c.state s n }:=by simp [Chain.step,e]
   rw [e1]
   refine vO tok Tryz.func117 rfl rfl Tryz.ntmps117 Tryz.results117 rfl (by decide) (fun cx hnt hk0=>?_)
   repeat' (first|refine vS fun K hK=>?_|refine hK _ ?_;clear hK K|refine hY ?_;clear hX hY X Y|((first|refine vR tok (by rw [hnt];rfl) ?_|refine vC fun X Y hX hY=>?_|refine vK ?_|refine vT ?_|refine vF [] ?_|(refine runS_v [] (l11May_ok c.state s n (by omega) (by omega) (by omega) (by omega)) ?_ ?_ ?_ ?_ ?_)|(refine runS_c [_,_,_,_] (l11Do_ok c.state s n (by omega) (by omega)) rfl ?_ ?_ ?_))<;>(try simp only [go_sem,qa,qb,qc,qd,qe,qf,qg,qh,qi,qj,qk,ql,qm,qn,qo,qp,qq,qr,qs,reduceIte,reduceCtorEq,e]))|refine aE ?_ fun hp=>?_|refine And.intro ?_ ?_)
   all_goals first|omega|(simp [wayDo_rows,rle_fI,rle_fB,rle_fP];done)
theorem l13Settle_ok (c:Chain) (seq:Int) (back:Bool) (ok1:c.ok=true) (hs:1≤seq∧seq≤c.state.sent.length):Call Tryz.prog 190 [.g (chainA c 0),I seq,BB back] (chainH c 0) 8 (.o (.g (chainA (c.settle seq back) 8))) (chainH (c.settle seq back) 8) 16:=by
 obtain ⟨q1,q2,q3,q4,q5,q6⟩:=chain_ok ok1
 obtain ⟨r1,r2,r3,r4,r5,r6,r7,r8,r9⟩:=state_ok q3
 obtain ⟨s1,s2,s3,s4⟩:=sentOk_iff (r7 (seq - 1).toNat (by omega))
 obtain ⟨p1,p2,p3,p4,p5,p6,p7⟩:=packet_ok s1
 have p2':In (c.sentAt seq).kind 1 2=true:=by rw [In_iff];exact p2
 have p3':In (c.sentAt seq).src 1 3=true:=by rw [In_iff];exact p3
 have p5a:0≤(c.sentAt seq).sum:=by unfold Chain.sentAt;omega
 have p5b:(c.sentAt seq).sum≤1000:=by unfold Chain.sentAt;omega
 cases back
 · refine vO tok Tryz.func190 rfl rfl Tryz.ntmps190 Tryz.results190 rfl (by decide) (fun cx hnt hk0=>?_)
   repeat' (first|refine vS fun K hK=>?_|refine hK _ ?_;clear hK K|refine hY ?_;clear hX hY X Y|((first|refine vR tok (by rw [hnt];rfl) ?_|refine vC fun X Y hX hY=>?_|refine vK ?_|refine vT ?_|(refine vF [] ?_))<;>(try simp only [go_sem,qa,qb,qc,qd,qe,qf,qg,qh,qi,qj,qk,ql,qm,qn,qo,qp,qq,qr,qs,reduceIte,reduceCtorEq,Chain.settle,Bool.false_eq_true]))|refine Fits.of ?_ ?_|(refine aL ?_ (fun hp=>?_)<;>((try simp only [rowSet_fI hp,rowSet_fI2 hp]);(try simp only [rowSet_fB hp])))|refine aE ?_ fun hp=>?_|refine aC ?_ fun hp=>?_|refine And.intro ?_ ?_|clear hK K)
   all_goals first|omega
 · refine vO tok Tryz.func190 rfl rfl Tryz.ntmps190 Tryz.results190 rfl (by decide) (fun cx hnt hk0=>?_)
   repeat' (first|refine vS fun K hK=>?_|refine hK _ ?_;clear hK K|refine hX ?_;clear hX hY X Y|((first|refine vR tok (by rw [hnt];rfl) ?_|refine vC fun X Y hX hY=>?_|refine vT ?_|refine vF [] ?_|(refine runS_c [_,_] (l1Back_ok c.bank (c.sentAt seq).kind (c.sentAt seq).src (c.sentAt seq).sum q2 p3' p2' p5a p5b) rfl ?_ ?_ ?_))<;>(try simp only [go_sem,qa,qb,qc,qd,qe,qf,qg,qh,qi,qj,qk,ql,qm,qn,qo,qp,qq,qr,qs,reduceIte,reduceCtorEq,Chain.settle,Bank.refund,Chain.sentAt]))|refine Fits.of ?_ ?_|(refine aL ?_ (fun hp=>?_)<;>((try simp only [rowSet_fI hp,rowSet_fI2 hp]);(try simp only [rowSet_fB hp])))|refine aE ?_ fun hp=>?_|refine aC ?_ fun hp=>?_|refine And.intro ?_ ?_|clear hK K)
   all_goals first|omega
theorem mine_iff {c:Chain} {seq:Int} (h:c.mine seq=true):1≤seq∧seq≤c.state.sent.length:=by
 simp only [Chain.mine,Bool.and_eq_true,In_iff] at h;exact h.1
theorem l13Tell_ok (c:Chain) (s:State) (seq:Int) (ok1:c.ok=true) (ok2:s.ok=true):Call Tryz.prog 161 [.g (chainA c 0),s.av,I seq] (chainH c 0) 8 (.tup [.g (chainA (c.tell s seq) 8),BB (c.tellB s seq)]) (chainH (c.tell s seq) 8) 16:=by
 obtain ⟨q1,q2,q3,q4,q5,q6⟩:=chain_ok ok1
 obtain ⟨r1,r2,r3,r4,r5,r6,r7,r8,r9⟩:=state_ok q3
 obtain ⟨t1,t2,t3,t4,t5,t6,t7,t8,t9⟩:=state_ok ok2
 cases em:c.mine seq
 · have e:c.tellB s seq=false:=by simp [Chain.tellB,em]
   have e1:c.tell s seq=c:=by simp [Chain.tell,e]
   rw [e1,e]
   refine vO tok Tryz.func161 rfl rfl Tryz.ntmps161 Tryz.results161 rfl (by decide) (fun cx hnt hk0=>?_)
   repeat' (first|refine vS fun K hK=>?_|refine hK _ ?_;clear hK K|refine hX ?_;clear hX hY X Y|((first|refine vR tok (by rw [hnt];rfl) ?_|refine vC fun X Y hX hY=>?_|refine vT ?_|refine vF [] ?_|(refine runS_v [] (l13Mine_ok c seq (by omega) (by omega)) ?_ ?_ ?_ ?_ ?_))<;>(try simp only [go_sem,qa,qb,qc,qd,qe,qf,qg,qh,qi,qj,qk,ql,qm,qn,qo,qp,qq,qr,qs,reduceIte,reduceCtorEq,em])))
   all_goals first|omega
 · have hs:=mine_iff em
   by_cases eg:s.got.getD (seq - 1).toNat 0=0
   · have e:c.tellB s seq=false:=by
       have eg2:s.gotAt seq=0:=eg
       simp [Chain.tellB,eg2]
     have e1:c.tell s seq=c:=by simp [Chain.tell,e]
     rw [e1,e]
     refine vO tok Tryz.func161 rfl rfl Tryz.ntmps161 Tryz.results161 rfl (by decide) (fun cx hnt hk0=>?_)
     repeat' (first|refine vS fun K hK=>?_|refine hK _ ?_;clear hK K|refine hX ?_;clear hX hY X Y|((first|refine vR tok (by rw [hnt];rfl) ?_|refine vC fun X Y hX hY=>?_|refine vT ?_|refine vF [] ?_|(refine runS_v [] (l13Mine_ok c seq (by omega) (by omega)) ?_ ?_ ?_ ?_ ?_)|(apply gC<;>intro hq<;>(try simp only [nT,nF,n1,n0] at hq)<;>(have hb:=hq)<;>(try simp only [dT,dF,eT,eF] at hb)<;>first|(exfalso;omega)|((try simp only [hq]);clear hq)))<;>(try simp only [go_sem,qa,qb,qc,qd,qe,qf,qg,qh,qi,qj,qk,ql,qm,qn,qo,qp,qq,qr,qs,reduceIte,reduceCtorEq,em]))|refine Fits.of ?_ ?_|refine aE ?_ fun hp=>?_|refine aC ?_ fun hp=>?_|refine And.intro ?_ ?_|clear hK K)
     all_goals first|omega
   · have e:c.tellB s seq=true:=by
       have eg2:¬ s.gotAt seq=0:=eg
       simp [Chain.tellB,eg2,em]
     have e1:c.tell s seq=c.settle seq (decide (s.got.getD (seq - 1).toNat 0=2)):=by simp only [Chain.tell,e,if_true];rfl
     rw [e1,e]
     refine vO tok Tryz.func161 rfl rfl Tryz.ntmps161 Tryz.results161 rfl (by decide) (fun cx hnt hk0=>?_)

     repeat' (first|refine vS fun K hK=>?_|refine hK _ ?_;clear hK K|refine hY ?_;clear hX hY X Y|((first|refine vR tok (by rw [hnt];rfl) ?_|refine vC fun X Y hX hY=>?_|refine vK ?_|refine vT ?_|refine vF [] ?_|(refine runS_v [] (l13Mine_ok c seq (by omega) (by omega)) ?_ ?_ ?_ ?_ ?_)|(refine AWp.draw (id:=3) tok mixed (.tak 0 (.tak 1 (.tak 2 (.tak 3 (.tak 4 (.tak 5 (.tak 6 (.tak 7 (.tak 8 (.all (.cons 9 (.all (.cons 10 (.tak 11 .done) .nil)) .nil))))))))))) [8,9] [2,3,4,6] (by kernel_rfl) (by kernel_rfl) (by rw [hnt];rfl) ?_)|(refine effS_c [_,_,_,_,_,_,_,_] (l13Settle_ok c seq (decide (s.got.getD (seq - 1).toNat 0=2)) ok1 hs) rfl ?_ ?_ ?_)|(apply gC<;>intro hq<;>(try simp only [nT,nF,n1,n0] at hq)<;>(have hb:=hq)<;>(try simp only [dT,dF,eT,eF] at hb)<;>first|(exfalso;omega)|((try simp only [hq]);clear hq)))<;>(try simp only [go_sem,qa,qb,qc,qd,qe,qf,qg,qh,qi,qj,qk,ql,qm,qn,qo,qp,qq,qr,qs,reduceIte,reduceCtorEq,em]))|refine Fits.of ?_ ?_|refine aE ?_ fun hp=>?_|refine aC ?_ fun hp=>?_|refine And.intro ?_ ?_|clear hK K)
     all_goals first|omega
theorem l13Late_ok (c:Chain) (s:State) (h seq:Int) (ok1:c.ok=true) (ok2:s.ok=true):Call Tryz.prog 162 [.g (chainA c 0),s.av,I h,I seq] (chainH c 0) 8 (.tup [.g (chainA (c.late s h seq) 8),BB (c.lateB s h seq)]) (chainH (c.late s h seq) 8) 16:=by
 obtain ⟨q1,q2,q3,q4,q5,q6⟩:=chain_ok ok1
 obtain ⟨r1,r2,r3,r4,r5,r6,r7,r8,r9⟩:=state_ok q3
 obtain ⟨t1,t2,t3,t4,t5,t6,t7,t8,t9⟩:=state_ok ok2
 cases e:c.lateB s h seq
 · have e1:c.late s h seq=c:=by simp [Chain.late,e]
   rw [e1]
   cases em:c.mine seq
   · refine vO tok Tryz.func162 rfl rfl Tryz.ntmps162 Tryz.results162 rfl (by decide) (fun cx hnt hk0=>?_)
     repeat' (first|refine vS fun K hK=>?_|refine hK _ ?_;clear hK K|refine hX ?_;clear hX hY X Y|((first|refine vR tok (by rw [hnt];rfl) ?_|refine vC fun X Y hX hY=>?_|refine vT ?_|refine vF [] ?_|(refine runS_v [] (l13Mine_ok c seq (by omega) (by omega)) ?_ ?_ ?_ ?_ ?_))<;>(try simp only [go_sem,qa,qb,qc,qd,qe,qf,qg,qh,qi,qj,qk,ql,qm,qn,qo,qp,qq,qr,qs,reduceIte,reduceCtorEq,em])))
     all_goals first|omega
   · have hs:=mine_iff em
     have e2:(c.state.sent.getD (seq - 1).toNat default).till≤h→s.got.getD (seq - 1).toNat 0 ≠ 0:=by
       intro h1 h2
       have h1':(c.sentAt seq).till≤h:=h1
       have h2':s.gotAt seq=0:=h2
       simp [Chain.lateB,em,h1',h2'] at e
     refine vO tok Tryz.func162 rfl rfl Tryz.ntmps162 Tryz.results162 rfl (by decide) (fun cx hnt hk0=>?_)
     repeat' (first|refine vS fun K hK=>?_|refine hK _ ?_;clear hK K|refine hX ?_;clear hX hY X Y|((first|refine vR tok (by rw [hnt];rfl) ?_|refine vC fun X Y hX hY=>?_|refine vT ?_|refine vF [] ?_|(refine runS_v [] (l13Mine_ok c seq (by omega) (by omega)) ?_ ?_ ?_ ?_ ?_)|((first|apply gR|apply gC)<;>intro hq<;>(try simp only [nT,nF,n1,n0] at hq)<;>(have hb:=hq)<;>(try simp only [dT,dF,eT,eF] at hb)<;>first|(exfalso;omega)|((try simp only [hq]);clear hq)))<;>(try simp only [go_sem,qa,qb,qc,qd,qe,qf,qg,qh,qi,qj,qk,ql,qm,qn,qo,qp,qq,qr,qs,reduceIte,reduceCtorEq,em]))|refine Fits.of ?_ ?_|refine aL ?_ fun hp=>?_|refine aE ?_ fun hp=>?_|refine aC ?_ fun hp=>?_|refine And.intro ?_ ?_|clear hK K)
     all_goals first|omega
 · have e1:c.late s h seq=c.settle seq true:=by simp [Chain.late,e]
   rw [e1]
   have e2:=e
   simp only [Chain.lateB,Bool.and_eq_true,decide_eq_true_eq] at e2
   obtain ⟨em,e3,e4⟩:=e2
   simp only [State.gotAt,Chain.sentAt] at e3 e4
   have hs:=mine_iff em
   refine vO tok Tryz.func162 rfl rfl Tryz.ntmps162 Tryz.results162 rfl (by decide) (fun cx hnt hk0=>?_)
   repeat' (first|refine vS fun K hK=>?_|refine hK _ ?_;clear hK K|refine hY ?_;clear hX hY X Y|((first|refine vR tok (by rw [hnt];rfl) ?_|refine vC fun X Y hX hY=>?_|refine vK ?_|refine vT ?_|refine vF [] ?_|(refine runS_v [] (l13Mine_ok c seq (by omega) (by omega)) ?_ ?_ ?_ ?_ ?_)|refine runS_c [_,_,_,_,_,_,_,_] (l13Settle_ok c seq true ok1 hs) rfl ?_ ?_ ?_|((first|apply gR|apply gC)<;>intro hq<;>(try simp only [nT,nF,n1,n0] at hq)<;>(have hb:=hq)<;>(try simp only [dT,dF,eT,eF] at hb)<;>first|(exfalso;omega)|((try simp only [hq]);clear hq)))<;>(try simp only [go_sem,qa,qb,qc,qd,qe,qf,qg,qh,qi,qj,qk,ql,qm,qn,qo,qp,qq,qr,qs,reduceIte,reduceCtorEq,em]))|refine Fits.of ?_ ?_|refine aL ?_ fun hp=>?_|refine aE ?_ fun hp=>?_|refine aC ?_ fun hp=>?_|refine And.intro ?_ ?_|clear hK K)
   all_goals first|omega
theorem l13Get_ok (c:Chain) (s:State) (p:Packet) (ok1:c.ok=true) (ok2:s.ok=true) (ok3:p.ok=true):Call Tryz.prog 160 [.g (chainA c 0),s.av,p.av] (chainH c 0) 8 (.tup [.g (chainA (c.get s p) 8),BB (c.getB s p)]) (chainH (c.get s p) 8) 16:=by
 obtain ⟨q1,q2,q3,q4,q5,q6⟩:=chain_ok ok1
 obtain ⟨r1,r2,r3,r4,r5,r6,r7,r8,r9⟩:=state_ok q3
 obtain ⟨t1,t2,t3,t4,t5,t6,t7,t8,t9⟩:=state_ok ok2
 obtain ⟨p1,p2,p3,p4,p5,p6,p7⟩:=packet_ok ok3
 cases e:c.getB s p
 · have e1:c.get s p=c:=by simp [Chain.get,e]
   rw [e1]
   cases eh:s.hasB p
   · refine vO tok Tryz.func160 rfl rfl Tryz.ntmps160 Tryz.results160 rfl (by decide) (fun cx hnt hk0=>?_)
     repeat' (first|refine vS fun K hK=>?_|refine hK _ ?_;clear hK K|refine hX ?_;clear hX hY X Y|((first|refine vR tok (by rw [hnt];rfl) ?_|refine vC fun X Y hX hY=>?_|refine vT ?_|refine vF [] ?_|(refine runS_c [] (l3Has_ok s p (by omega) (by omega)) rfl ?_ ?_ ?_)|(apply gR<;>intro hq<;>(try simp only [nT,nF,n1,n0] at hq)<;>(have hb:=hq)<;>(try simp only [dT,dF,eT,eF] at hb)<;>first|(exfalso;omega)|((try simp only [hq]);clear hq)))<;>(try simp only [go_sem,qa,qb,qc,qd,qe,qf,qg,qh,qi,qj,qk,ql,qm,qn,qo,qp,qq,qr,qs,reduceIte,reduceCtorEq,eh])))
     all_goals first|omega
   · have e2:3≤c.state.way→c.state.got.getD (p.seq - 1).toNat 0=0→p.ver=c.state.ver→¬ ((c.past.length:Int)+1 < p.till):=by
       intro h1 h2 h3 h4
       have h2':c.state.gotAt p.seq=0:=h2
       simp [Chain.getB,eh,h1,h2',h3,h4] at e
     refine vO tok Tryz.func160 rfl rfl Tryz.ntmps160 Tryz.results160 rfl (by decide) (fun cx hnt hk0=>?_)
     repeat' (first|refine vS fun K hK=>?_|refine hK _ ?_;clear hK K|refine hX ?_;clear hX hY X Y|((first|refine vR tok (by rw [hnt];rfl) ?_|refine vC fun X Y hX hY=>?_|refine vT ?_|refine vF [] ?_|(refine runS_c [] (l3Has_ok s p (by omega) (by omega)) rfl ?_ ?_ ?_)|((first|apply gR|apply gC)<;>intro hq<;>(try simp only [nT,nF,n1,n0] at hq)<;>(have hb:=hq)<;>(try simp only [dT,dF,eT,eF] at hb)<;>first|(exfalso;omega)|((try simp only [hq]);clear hq)))<;>(try simp only [go_sem,qa,qb,qc,qd,qe,qf,qg,qh,qi,qj,qk,ql,qm,qn,qo,qp,qq,qr,qs,reduceIte,reduceCtorEq,eh]))|refine Fits.of ?_ ?_|(refine aL ?_ (fun hp=>?_)<;>((try simp only [rowSet_fI hp,rowSet_fI2 hp]);(try simp only [rowSet_fB hp])))|refine aE ?_ fun hp=>?_|refine aC ?_ fun hp=>?_|refine And.intro ?_ ?_|clear hK K)
     all_goals first|omega
 · have e1:c.get s p=c.getD p:=by simp [Chain.get,e]
   rw [e1]
   have e2:=e
   simp only [Chain.getB,Bool.and_eq_true,decide_eq_true_eq] at e2
   obtain ⟨e3,eh,e4,e5,e6⟩:=e2
   simp only [State.gotAt] at e4
   have e7:(if payB c.bank p then c.bank.backD (otherK p.kind) p.dst p.sum else c.bank)=payD c.bank p:=rfl
   have e8:(if payB c.bank p then (1:Int) else 2)=payN c.bank p:=rfl
   refine vO tok Tryz.func160 rfl rfl Tryz.ntmps160 Tryz.results160 rfl (by decide) (fun cx hnt hk0=>?_)
   repeat' (first|refine vS fun K hK=>?_|refine hK _ ?_;clear hK K|refine hY ?_;clear hX hY X Y|((first|refine vR tok (by rw [hnt];rfl) ?_|refine vC fun X Y hX hY=>?_|refine vK ?_|refine vT ?_|refine vF [] ?_|(refine runS_c [] (l3Has_ok s p (by omega) (by omega)) rfl ?_ ?_ ?_)|refine runS_c [_,_] (l13Pay_ok c.bank p q2 ok3) rfl ?_ ?_ ?_|((first|apply gR|apply gC)<;>intro hq<;>(try simp only [nT,nF,n1,n0] at hq)<;>(have hb:=hq)<;>(try simp only [dT,dF,eT,eF] at hb)<;>first|(exfalso;omega)|((try simp only [hq]);clear hq)))<;>(try simp only [go_sem,qa,qb,qc,qd,qe,qf,qg,qh,qi,qj,qk,ql,qm,qn,qo,qp,qq,qr,qs,reduceIte,reduceCtorEq,eh,Chain.getD,e7,e8]))|refine Fits.of ?_ ?_|(refine aL ?_ (fun hp=>?_)<;>((try simp only [rowSet_fI hp,rowSet_fI2 hp]);(try simp only [rowSet_fB hp])))|refine aE ?_ fun hp=>?_|refine aC ?_ fun hp=>?_|refine And.intro ?_ ?_|clear hK K)
   all_goals first|omega
def zC:AObj:=.box [.t (.v (.int .i64 0)),.t (.v (.slice none 0 0)),.t (.v (.slice none 0 0)),.t (.v (.int .i64 0)),.t (.v (.int .i64 0)),.t (.v (.int .i64 0)),.t (.v (.int .i64 0)),.t (.v (.slice none 0 0)),.t (.v (.slice none 0 0)),.t (.v (.slice none 0 0)),.t (.v (.slice none 0 0)),.t (.v (.slice none 0 0)),.t (.v (.slice none 0 0))]
attribute [go_sem] zC
theorem filter_le (p:Int→Bool) (l:List Int):(l.filter p).length≤l.length:=List.length_filter_le _ _
theorem l21Know_ok (c o:Chain) (h:Int) (ok1:c.ok=true) (ok2:o.past.length≤1000):Call Tryz.prog 114 [.g (chainA c 0),.g (chainA o 8),I h] (chainH c 0) 16 (.o (.g (chainA (c.know o h) 16))) (chainH (c.know o h) 16) 24:=by
 obtain ⟨q1,q2,q3,q4,q5,q6⟩:=chain_ok ok1
 have q7:=knows_len q6
 have qa:∀ i,(((c.knows.take i).filter fun x=>decide (x < h))).length≤90:=fun i=>Nat.le_trans (filter_le _ _) (by rw [List.length_take];omega)
 have qb:∀ i,(((c.knows.take i).filter fun x=>decide (h < x))).length≤90:=fun i=>Nat.le_trans (filter_le _ _) (by rw [List.length_take];omega)
 have qc:((c.knows.filter fun x=>decide (x < h))).length≤90:=Nat.le_trans (filter_le _ _) q7
 cases e:c.knowB o h
 · have e1:c.know o h=c:=by simp [Chain.know,e]
   rw [e1]
   cases e2:In h 1 o.past.length
   · refine vO tok Tryz.func114 rfl rfl Tryz.ntmps114 Tryz.results114 rfl (by decide) (fun cx hnt hk0=>?_)
     repeat' (first|(refine vS fun K hK=>?_)|(refine hK _ ?_;clear hK K)|(refine hX ?_;clear hX hY X Y)|((first|(refine vR tok (by rw [hnt];rfl) ?_)|(refine vC fun X Y hX hY=>?_)|(refine vT ?_)|(refine vF [] ?_)|(refine runS_c [] (l6In_ok _ _ _) rfl ?_ ?_ ?_))<;>(try simp only [go_sem,Nat.reduceDiv,Nat.reduceMod,Nat.reduceAdd,Nat.reduceMul,Nat.reduceSub,Nat.reduceLeDiff,Nat.reduceBEq,Nat.reduceEqDiff,Nat.reduceBeqDiff,Nat.reduceLT,Int.reduceToNat,Int.reduceAdd,Int.reduceSub,Int.reduceNeg,Int.reduceLT,Int.reduceLE,Int.reduceEq,Int.reduceBEq,Int.reduceBNe,reduceIte,reduceCtorEq,e2])))
     all_goals first|omega
   · have e3:c.knows.contains h=true:=by
       cases e4:c.knows.contains h with
       | true=>rfl
       | false=>rw [Chain.knowB,e2,e4] at e;cases e
     refine vO tok Tryz.func114 rfl rfl Tryz.ntmps114 Tryz.results114 rfl (by decide) (fun cx hnt hk0=>?_)
     repeat' (first|(refine vS fun K hK=>?_)|(refine hK _ ?_;clear hK K)|(refine hX ?_;clear hX hY X Y)|((first|(refine vR tok (by rw [hnt];rfl) ?_)|(refine vC fun X Y hX hY=>?_)|(refine vT ?_)|(refine vF [] ?_)|(refine runS_c [] (l6In_ok _ _ _) rfl ?_ ?_ ?_)|(refine runS_v [] (l21Among_ok c.knows h (by omega)) ?_ ?_ ?_ ?_ ?_))<;>(try simp only [go_sem,Nat.reduceDiv,Nat.reduceMod,Nat.reduceAdd,Nat.reduceMul,Nat.reduceSub,Nat.reduceLeDiff,Nat.reduceBEq,Nat.reduceEqDiff,Nat.reduceBeqDiff,Nat.reduceLT,Int.reduceToNat,Int.reduceAdd,Int.reduceSub,Int.reduceNeg,Int.reduceLT,Int.reduceLE,Int.reduceEq,Int.reduceBEq,Int.reduceBNe,reduceIte,reduceCtorEq,e2,e3])))
     all_goals first|omega
 · have e1:c.know o h={ c with knows:=c.knows.filter (fun x=>decide (x < h))++h ::c.knows.filter (fun x=>decide (h < x)) }:=by simp [Chain.know,e]
   rw [e1]
   have e2:=e
   simp only [Chain.knowB,Bool.and_eq_true,Bool.not_eq_true'] at e2
   obtain ⟨e3,e4⟩:=e2
   refine vO tok Tryz.func114 rfl rfl Tryz.ntmps114 Tryz.results114 rfl (by decide) (fun cx hnt hk0=>?_)
   repeat' (first|(refine vS fun K hK=>?_)|(refine hK _ ?_;clear hK K)|(refine hY ?_;clear hX hY X Y)|(refine vB ?_)|((first|(refine vR tok (by rw [hnt];rfl) ?_)|(refine vC fun X Y hX hY=>?_)|(refine vK ?_)|(refine runS_c [] (l6In_ok _ _ _) rfl ?_ ?_ ?_)|(refine runS_v [] (l21Among_ok c.knows h (by omega)) ?_ ?_ ?_ ?_ ?_))<;>(try simp only [go_sem,Nat.reduceDiv,Nat.reduceMod,Nat.reduceAdd,Nat.reduceMul,Nat.reduceSub,Nat.reduceLeDiff,Nat.reduceBEq,Nat.reduceEqDiff,Nat.reduceBeqDiff,Nat.reduceLT,Int.reduceToNat,Int.reduceAdd,Int.reduceSub,Int.reduceNeg,Int.reduceLT,Int.reduceLE,Int.reduceEq,Int.reduceBEq,Int.reduceBNe,reduceIte,reduceCtorEq,e3,e4])))
   refine AWp.loop (fun i:Nat=>⟨[(2,.o (I h)),(3,.o (.c (.ptr 16 0 0 0))),(6,.o (.c (.ptr 18 0 0 0))),(7,.o (.c (.sl 19 1 0 ((c.knows.take i).filter fun x=>decide (x < h)).length))),(8,.o (I i))],
     (19,rI ((c.knows.take i).filter fun x=>decide (x < h))) ::(16,.box (chainA c 0)) ::(18,zC) ::chainH c 0,20⟩) (fun i=>i≤c.knows.length) (fun i=>c.knows.length - i) 0 (Nat.zero_le _) ?_ ?_
   · refine vL hk0 [] ?_;simp only [go_sem,Nat.reduceDiv,Nat.reduceMod,Nat.reduceAdd,Nat.reduceMul,Nat.reduceSub,Nat.reduceLeDiff,Nat.reduceBEq,Nat.reduceEqDiff,Nat.reduceBeqDiff,Nat.reduceLT,Int.reduceToNat,Int.reduceAdd,Int.reduceSub,Int.reduceNeg,Int.reduceLT,Int.reduceLE,Int.reduceEq,Int.reduceBEq,Int.reduceBNe,reduceIte,reduceCtorEq,List.take_zero,List.filter_nil]
     all_goals simp
   intro i hi
   have qi:=qa i
   repeat' (first|(refine vS fun K hK=>?_)|(refine hK _ ?_;clear hK K)|(refine hX ?_;clear hX hY X Y)|(refine hY ?_;clear hX hY X Y)|(refine vB ?_)|((first|(refine vR tok (by rw [hnt];rfl) ?_)|(refine vC fun X Y hX hY=>?_)|(refine vK ?_)|(refine vE ?_)|(refine vL hk0 [] ?_)|(apply (condG_split)<;>intro hq<;>(try simp only [nT,nF,n1,n0] at hq)<;>(have hb:=hq)<;>(try simp only [dT,dF,eT,eF] at hb)<;>first|(exfalso;omega)|((try simp only [hq]);clear hq)))<;>(try simp only [go_sem,Nat.reduceDiv,Nat.reduceMod,Nat.reduceAdd,Nat.reduceMul,Nat.reduceSub,Nat.reduceLeDiff,Nat.reduceBEq,Nat.reduceEqDiff,Nat.reduceBeqDiff,Nat.reduceLT,Int.reduceToNat,Int.reduceAdd,Int.reduceSub,Int.reduceNeg,Int.reduceLT,Int.reduceLE,Int.reduceEq,Int.reduceBEq,Int.reduceBNe,reduceIte,reduceCtorEq]))|(refine ⟨i+1,?_,?_,?_⟩)|(refine Fits.of ?_ ?_)|refine aL ?_ fun hp=>?_|(refine aE ?_ fun hp=>?_)|(refine aC ?_ fun hp=>?_)|(refine And.intro ?_ ?_)|(clear hK K))
   all_goals try (first|omega|(simp only [dA,dB,dC];omega))
   all_goals try (rw [filter_take _ _ _ (by omega),if_pos (by simpa using hb)];simp [rle_fI];done)
   all_goals try (rw [filter_take _ _ _ (by omega),if_neg (by simpa using hb)];simp [rle_fI];done)
   have ei:i=c.knows.length:=by omega
   subst ei
   rw [List.take_length]
   refine AWp.loop (fun i:Nat=>⟨[(2,.o (I h)),(3,.o (.c (.ptr 16 0 0 0))),(6,.o (.c (.ptr 18 0 0 0))),(7,.o (.c (.sl 19 1 0 (((c.knows.filter fun x=>decide (x < h))++h ::(c.knows.take i).filter fun x=>decide (h < x))).length))),(9,.o (I i))],
     (19,rI ((c.knows.filter fun x=>decide (x < h))++h ::(c.knows.take i).filter fun x=>decide (h < x))) ::(16,.box (chainA c 0)) ::(18,zC) ::chainH c 0,20⟩) (fun i=>i≤c.knows.length) (fun i=>c.knows.length - i) 0 (Nat.zero_le _) ?_ ?_
   · refine vL hk0 [] ?_;simp only [go_sem,Nat.reduceDiv,Nat.reduceMod,Nat.reduceAdd,Nat.reduceMul,Nat.reduceSub,Nat.reduceLeDiff,Nat.reduceBEq,Nat.reduceEqDiff,Nat.reduceBeqDiff,Nat.reduceLT,Int.reduceToNat,Int.reduceAdd,Int.reduceSub,Int.reduceNeg,Int.reduceLT,Int.reduceLE,Int.reduceEq,Int.reduceBEq,Int.reduceBNe,reduceIte,reduceCtorEq,List.take_zero,List.filter_nil]
     all_goals simp
   intro i hi
   have qi:=qb i
   repeat' (first|(refine vS fun K hK=>?_)|(refine hK _ ?_;clear hK K)|(refine hX ?_;clear hX hY X Y)|(refine hY ?_;clear hX hY X Y)|(refine vB ?_)|((first|(refine vR tok (by rw [hnt];rfl) ?_)|(refine vC fun X Y hX hY=>?_)|(refine vK ?_)|(refine vE ?_)|(refine vT ?_)|(refine vF [] ?_)|(refine vL hk0 [] ?_)|(apply (condG_split)<;>intro hq<;>(try simp only [nT,nF,n1,n0] at hq)<;>(have hb:=hq)<;>(try simp only [dT,dF,eT,eF] at hb)<;>first|(exfalso;omega)|((try simp only [hq]);clear hq)))<;>(try simp only [go_sem,Nat.reduceDiv,Nat.reduceMod,Nat.reduceAdd,Nat.reduceMul,Nat.reduceSub,Nat.reduceLeDiff,Nat.reduceBEq,Nat.reduceEqDiff,Nat.reduceBeqDiff,Nat.reduceLT,Int.reduceToNat,Int.reduceAdd,Int.reduceSub,Int.reduceNeg,Int.reduceLT,Int.reduceLE,Int.reduceEq,Int.reduceBEq,Int.reduceBNe,reduceIte,reduceCtorEq]))|(refine ⟨i+1,?_,?_,?_⟩)|(refine Fits.of ?_ ?_)|refine aL ?_ fun hp=>?_|(refine aE ?_ fun hp=>?_)|(refine aC ?_ fun hp=>?_)|(refine And.intro ?_ ?_)|(clear hK K))
   all_goals try (first|omega|(simp only [dA,dB,dC];omega))
   all_goals try (rw [filter_take _ _ _ (by omega),if_pos (by simpa using hb)];simp [rle_fI];done)
   all_goals try (rw [filter_take _ _ _ (by omega),if_neg (by simpa using hb)];simp [rle_fI];done)
   all_goals (have ei:i=c.knows.length:=by omega)
   all_goals (subst ei;simp only [List.take_length])
   all_goals first|omega|(simp [rle_fI];done)
theorem l21Relay_ok (c o:Chain) (ev:Event) (ok1:c.ok=true) (ok2:o.ok=true):Call Tryz.prog 118 [.g (chainA c 0),.g (chainA o 8),ev.av] (chainH c 0++chainH o 8) 16 (.o (.g (chainA (c.relay o ev) 16))) (chainH (c.relay o ev) 16++chainH o 8) 24:=by
 obtain ⟨q1,q2,q3,q4,q5,q6⟩:=chain_ok ok1
 obtain ⟨u1,u2,u3,u4,u5,u6⟩:=chain_ok ok2
 have q7:=knows_len q6
 cases e:c.relayB o ev.height
 · have e1:c.relay o ev=c:=by simp [Chain.relay,e]
   rw [e1]
   cases e2:c.knows.contains ev.height
   · refine vO tok Tryz.func118 rfl rfl Tryz.ntmps118 Tryz.results118 rfl (by decide) (fun cx hnt hk0=>?_)
     repeat' (first|refine vS fun K hK=>?_|refine hK _ ?_;clear hK K|refine hX ?_;clear hX hY X Y|((first|refine vR tok (by rw [hnt];rfl) ?_|refine vC fun X Y hX hY=>?_|refine vT ?_|refine vF [] ?_|(refine runS_v [] (l21Among_ok c.knows ev.height (by omega)) ?_ ?_ ?_ ?_ ?_))<;>(try simp only [go_sem,qa,qb,qc,qd,qe,qf,qg,qh,qi,qj,qk,ql,qm,qn,qo,qp,qq,qr,qs,reduceIte,reduceCtorEq,e2])))
     all_goals first|omega
   · have e3:¬ ev.height≤o.past.length:=by
       intro h
       have h':decide (ev.height≤(o.past.length:Int))=true:=by simpa using h
       rw [Chain.relayB,e2,h'] at e;cases e
     refine vO tok Tryz.func118 rfl rfl Tryz.ntmps118 Tryz.results118 rfl (by decide) (fun cx hnt hk0=>?_)
     repeat' (first|refine vS fun K hK=>?_|refine hK _ ?_;clear hK K|refine hX ?_;clear hX hY X Y|((first|refine vR tok (by rw [hnt];rfl) ?_|refine vC fun X Y hX hY=>?_|refine vT ?_|refine vF [] ?_|(refine runS_v [] (l21Among_ok c.knows ev.height (by omega)) ?_ ?_ ?_ ?_ ?_)|(apply gC<;>intro hq<;>(try simp only [nT,nF,n1,n0] at hq)<;>(have hb:=hq)<;>(try simp only [dT,dF,eT,eF] at hb)<;>first|(exfalso;omega)|((try simp only [hq]);clear hq)))<;>(try simp only [go_sem,qa,qb,qc,qd,qe,qf,qg,qh,qi,qj,qk,ql,qm,qn,qo,qp,qq,qr,qs,reduceIte,reduceCtorEq,e2])))
     all_goals first|omega
 · have e2 := e
   simp only [Chain.relayB,Bool.and_eq_true,decide_eq_true_eq] at e2
   obtain ⟨e3,e4⟩:=e2
   have e5:1≤ev.height:=by
     have hm:ev.height ∈ c.knows:=by simpa using e3
     obtain ⟨i,hi,e6⟩:=List.getElem_of_mem hm
     have:=q6 i hi
     simp only [knowOk,Bool.and_eq_true,In_iff] at this
     have e7:c.knows.getD i 0=ev.height:=by simp [List.getD,hi,e6]
     omega
   have e6:(o.past.getD (ev.height - 1).toNat default).ok=true:=u5 _ (by omega)
   have e7:c.relay o ev=(if ev.kind=4 then (if ev.packet.ok then c.get (o.at ev.height) ev.packet else c)
     else if ev.kind=5 then c.tell (o.at ev.height) ev.n
     else if ev.kind=6 then c.late (o.at ev.height) ev.height ev.n
     else if ev.kind=7 then c.step (o.at ev.height) ev.n
     else c):=by simp only [Chain.relay,e,if_true]
   rw [e7]
   clear e7
   simp only [Chain.at]
   generalize es:o.past.getD (ev.height - 1).toNat default=s at e6 ⊢
   by_cases k4:ev.kind=4
   · rw [if_pos k4]
     cases ep:ev.packet.ok
     · refine vO tok Tryz.func118 rfl rfl Tryz.ntmps118 Tryz.results118 rfl (by decide) (fun cx hnt hk0=>?_)
       repeat' (first|refine vS fun K hK=>?_|refine hK _ ?_;clear hK K|refine hX ?_;clear hX hY X Y|refine hY ?_;clear hX hY X Y|refine vB ?_|((first|refine vR tok (by rw [hnt];rfl) ?_|refine vC fun X Y hX hY=>?_|refine vK ?_|refine vT ?_|refine vF [] ?_|(refine runS_v [] (l21Among_ok c.knows ev.height (by omega)) ?_ ?_ ?_ ?_ ?_)|refine runS_c [] (PacketOk_ok ev.packet) rfl ?_ ?_ ?_|(apply gC<;>intro hq<;>(try simp only [nT,nF,n1,n0] at hq)<;>(have hb:=hq)<;>(try simp only [dT,dF,eT,eF] at hb)<;>first|(exfalso;omega)|((try simp only [hq]);clear hq)))<;>(try simp only [go_sem,qa,qb,qc,qd,qe,qf,qg,qh,qi,qj,qk,ql,qm,qn,qo,qp,qq,qr,qs,reduceIte,reduceCtorEq,e3,ep,es,Bool.false_eq_true]))|refine Fits.of ?_ ?_|refine aL ?_ fun hp=>?_|refine aE ?_ fun hp=>?_|refine aC ?_ fun hp=>?_|refine And.intro ?_ ?_|clear hK K)
       all_goals first|omega
     · refine vO tok Tryz.func118 rfl rfl Tryz.ntmps118 Tryz.results118 rfl (by decide) (fun cx hnt hk0=>?_)
       repeat' (first|refine vS fun K hK=>?_|refine hK _ ?_;clear hK K|refine hX ?_;clear hX hY X Y|refine hY ?_;clear hX hY X Y|refine vB ?_|((first|refine vR tok (by rw [hnt];rfl) ?_|refine vC fun X Y hX hY=>?_|refine vK ?_|refine vT ?_|refine vF [] ?_|(refine runS_v [] (l21Among_ok c.knows ev.height (by omega)) ?_ ?_ ?_ ?_ ?_)|refine runS_c [] (PacketOk_ok ev.packet) rfl ?_ ?_ ?_|refine runS_c [_,_,_,_,_,_,_,_] (l13Get_ok c s ev.packet ok1 e6 ep) rfl ?_ ?_ ?_|(apply gC<;>intro hq<;>(try simp only [nT,nF,n1,n0] at hq)<;>(have hb:=hq)<;>(try simp only [dT,dF,eT,eF] at hb)<;>first|(exfalso;omega)|((try simp only [hq]);clear hq)))<;>(try simp only [go_sem,qa,qb,qc,qd,qe,qf,qg,qh,qi,qj,qk,ql,qm,qn,qo,qp,qq,qr,qs,reduceIte,reduceCtorEq,e3,ep,es]))|refine Fits.of ?_ ?_|refine aL ?_ fun hp=>?_|refine aE ?_ fun hp=>?_|refine aC ?_ fun hp=>?_|refine And.intro ?_ ?_|clear hK K)
       all_goals first|omega
   · rw [if_neg k4]
     by_cases k5:ev.kind=5
     · rw [if_pos k5]
       refine vO tok Tryz.func118 rfl rfl Tryz.ntmps118 Tryz.results118 rfl (by decide) (fun cx hnt hk0=>?_)
       repeat' (first|refine vS fun K hK=>?_|refine hK _ ?_;clear hK K|refine hX ?_;clear hX hY X Y|refine hY ?_;clear hX hY X Y|refine vB ?_|((first|refine vR tok (by rw [hnt];rfl) ?_|refine vC fun X Y hX hY=>?_|refine vK ?_|refine vT ?_|refine vF [] ?_|(refine runS_v [] (l21Among_ok c.knows ev.height (by omega)) ?_ ?_ ?_ ?_ ?_)|refine runS_c [_,_,_,_,_,_,_,_] (l13Tell_ok c s ev.n ok1 e6) rfl ?_ ?_ ?_|(apply gC<;>intro hq<;>(try simp only [nT,nF,n1,n0] at hq)<;>(have hb:=hq)<;>(try simp only [dT,dF,eT,eF] at hb)<;>first|(exfalso;omega)|((try simp only [hq]);clear hq)))<;>(try simp only [go_sem,qa,qb,qc,qd,qe,qf,qg,qh,qi,qj,qk,ql,qm,qn,qo,qp,qq,qr,qs,reduceIte,reduceCtorEq,e3,es]))|refine Fits.of ?_ ?_|refine aL ?_ fun hp=>?_|refine aE ?_ fun hp=>?_|refine aC ?_ fun hp=>?_|refine And.intro ?_ ?_|clear hK K)
       all_goals first|omega
     · rw [if_neg k5]
       by_cases k6:ev.kind=6
       · rw [if_pos k6]
         refine vO tok Tryz.func118 rfl rfl Tryz.ntmps118 Tryz.results118 rfl (by decide) (fun cx hnt hk0=>?_)
         repeat' (first|refine vS fun K hK=>?_|refine hK _ ?_;clear hK K|refine hX ?_;clear hX hY X Y|refine hY ?_;clear hX hY X Y|refine vB ?_|((first|refine vR tok (by rw [hnt];rfl) ?_|refine vC fun X Y hX hY=>?_|refine vK ?_|refine vT ?_|refine vF [] ?_|(refine runS_v [] (l21Among_ok c.knows ev.height (by omega)) ?_ ?_ ?_ ?_ ?_)|refine runS_c [_,_,_,_,_,_,_,_] (l13Late_ok c s ev.height ev.n ok1 e6) rfl ?_ ?_ ?_|(apply gC<;>intro hq<;>(try simp only [nT,nF,n1,n0] at hq)<;>(have hb:=hq)<;>(try simp only [dT,dF,eT,eF] at hb)<;>first|(exfalso;omega)|((try simp only [hq]);clear hq)))<;>(try simp only [go_sem,qa,qb,qc,qd,qe,qf,qg,qh,qi,qj,qk,ql,qm,qn,qo,qp,qq,qr,qs,reduceIte,reduceCtorEq,e3,es]))|refine Fits.of ?_ ?_|refine aL ?_ fun hp=>?_|refine aE ?_ fun hp=>?_|refine aC ?_ fun hp=>?_|refine And.intro ?_ ?_|clear hK K)
         all_goals first|omega
       · rw [if_neg k6]
         by_cases k7:ev.kind=7
         · rw [if_pos k7]
           refine vO tok Tryz.func118 rfl rfl Tryz.ntmps118 Tryz.results118 rfl (by decide) (fun cx hnt hk0=>?_)
           repeat' (first|refine vS fun K hK=>?_|refine hK _ ?_;clear hK K|refine hX ?_;clear hX hY X Y|refine hY ?_;clear hX hY X Y|refine vB ?_|((first|refine vR tok (by rw [hnt];rfl) ?_|refine vC fun X Y hX hY=>?_|refine vK ?_|refine vT ?_|refine vF [] ?_|(refine runS_v [] (l21Among_ok c.knows ev.height (by omega)) ?_ ?_ ?_ ?_ ?_)|refine runS_c [_,_,_,_,_,_,_,_] (l13Step_ok c s ev.n ok1 e6) rfl ?_ ?_ ?_|(apply gC<;>intro hq<;>(try simp only [nT,nF,n1,n0] at hq)<;>(have hb:=hq)<;>(try simp only [dT,dF,eT,eF] at hb)<;>first|(exfalso;omega)|((try simp only [hq]);clear hq)))<;>(try simp only [go_sem,qa,qb,qc,qd,qe,qf,qg,qh,qi,qj,qk,ql,qm,qn,qo,qp,qq,qr,qs,reduceIte,reduceCtorEq,e3,es]))|refine Fits.of ?_ ?_|refine aL ?_ fun hp=>?_|refine aE ?_ fun hp=>?_|refine aC ?_ fun hp=>?_|refine And.intro ?_ ?_|clear hK K)
           all_goals first|omega
         · rw [if_neg k7]
           refine vO tok Tryz.func118 rfl rfl Tryz.ntmps118 Tryz.results118 rfl (by decide) (fun cx hnt hk0=>?_)
           repeat' (first|refine vS fun K hK=>?_|refine hK _ ?_;clear hK K|refine hY ?_;clear hX hY X Y|refine vB ?_|((first|refine vR tok (by rw [hnt];rfl) ?_|refine vC fun X Y hX hY=>?_|refine vK ?_|refine vT ?_|refine vF [] ?_|(refine runS_v [] (l21Among_ok c.knows ev.height (by omega)) ?_ ?_ ?_ ?_ ?_)|(apply gC<;>intro hq<;>(try simp only [nT,nF,n1,n0] at hq)<;>(have hb:=hq)<;>(try simp only [dT,dF,eT,eF] at hb)<;>first|(exfalso;omega)|((try simp only [hq]);clear hq)))<;>(try simp only [go_sem,qa,qb,qc,qd,qe,qf,qg,qh,qi,qj,qk,ql,qm,qn,qo,qp,qq,qr,qs,reduceIte,reduceCtorEq,e3,es]))|refine Fits.of ?_ ?_|refine aL ?_ fun hp=>?_|refine aE ?_ fun hp=>?_|refine aC ?_ fun hp=>?_|refine And.intro ?_ ?_|clear hK K)
           all_goals first|omega
def pl_StateNew_tree0:Plan:=(.tak 0 (.tak 2 (.tak 3 (.all (.cons 1 (.all (.cons 4 (.tak 5 (.tak 6 (.tak 7 (.all (.cons 8 (.all (.cons 9 (.tak 10 .done) .nil)) .nil))))) (.cons 8 (.all (.cons 4 (.tak 5 (.tak 6 (.tak 7 (.all (.cons 9 (.tak 10 .done) .nil))))) .nil)) .nil))) (.cons 8 (.all (.cons 1 (.all (.cons 4 (.tak 5 (.tak 6 (.tak 7 (.all (.cons 9 (.tak 10 .done) .nil))))) .nil)) .nil)) .nil))))))
attribute [go_sem] pl_StateNew_tree0
theorem StateNew_tree:Call Tryz.prog 75 [] [] 0 (.o State.new.av) [] 0:=by
 refine vO tok Tryz.func75 rfl rfl Tryz.ntmps75 Tryz.results75 rfl (by decide) (fun cx hnt hk0=>?_)

 repeat' (first|refine vS fun K hK=>?_|refine hK _ ?_;clear hK K|((first|refine vR tok (by rw [hnt];rfl) ?_|refine vT ?_|(refine vF [1,2,3,4] ?_))<;>(try simp only [go_sem,qa,qb,qc,qd,qe,qf,qg,qh,qi,qj,qk,ql,qm,qn,qo,qp,qq,qr,qs,reduceIte,reduceCtorEq,State.new])))
theorem state_new_ok:State.new.ok=true:=by decide
theorem l21Chain_ok (c o:Chain) (kind chain height n seq pk src dst sum till ver:Int) (ok1:c.ok=true) (ok2:o.ok=true) :
   Call Tryz.prog 81 [.g (chainA c 0),.g (chainA o 8),(Event.mk kind chain height n ⟨seq,pk,src,dst,sum,till,ver⟩).av] (chainH c 0++chainH o 8) 16
     (.o (.g (chainA (c.on o ⟨kind,chain,height,n,⟨seq,pk,src,dst,sum,till,ver⟩⟩) 16))) (chainH (c.on o ⟨kind,chain,height,n,⟨seq,pk,src,dst,sum,till,ver⟩⟩) 16++chainH o 8) 24:=by
 obtain ⟨q1,q2,q3,q4,q5,q6⟩:=chain_ok ok1
 obtain ⟨u1,u2,u3,u4,u5,u6⟩:=chain_ok ok2
 obtain ⟨b1,b2,b3,b4,b5⟩:=bank_ok q2
 have b6:=parts_len b1
 have b7:=parts_len b2
 have b8:=parts_all b1
 by_cases k1:kind=1
 · have e:c.on o ⟨kind,chain,height,n,⟨seq,pk,src,dst,sum,till,ver⟩⟩=c.block:=by simp [Chain.on,k1]
   rw [e]
   refine vO tok Tryz.func81 rfl rfl Tryz.ntmps81 Tryz.results81 rfl (by decide) (fun cx hnt hk0=>?_)
   repeat' (first|refine vS fun K hK=>?_|refine hK _ ?_;clear hK K|refine hX ?_;clear hX hY X Y|refine vB ?_|((first|refine vR tok (by rw [hnt];rfl) ?_|refine vC fun X Y hX hY=>?_|refine vT ?_|refine vF [] ?_|refine runS_c [_,_,_,_,_,_,_,_] (l12Block_ok c ok1) rfl ?_ ?_ ?_|(apply gC<;>intro hq<;>(try simp only [nT,nF,n1,n0] at hq)<;>(have hb:=hq)<;>(try simp only [dT,dF,eT,eF] at hb)<;>first|(exfalso;omega)|((try simp only [hq]);clear hq)))<;>(try simp only [go_sem,qa,qb,qc,qd,qe,qf,qg,qh,qi,qj,qk,ql,qm,qn,qo,qp,qq,qr,qs,reduceIte,reduceCtorEq])))
   all_goals first|omega
 by_cases k2:kind=2
 · have e:c.on o ⟨kind,chain,height,n,⟨seq,pk,src,dst,sum,till,ver⟩⟩=c.know o height:=by simp [Chain.on,k2]
   rw [e]
   refine vO tok Tryz.func81 rfl rfl Tryz.ntmps81 Tryz.results81 rfl (by decide) (fun cx hnt hk0=>?_)
   repeat' (first|refine vS fun K hK=>?_|refine hK _ ?_;clear hK K|refine hX ?_;clear hX hY X Y|refine hY ?_;clear hX hY X Y|refine vB ?_|((first|refine vR tok (by rw [hnt];rfl) ?_|refine vC fun X Y hX hY=>?_|refine vT ?_|refine vF [] ?_|(refine runS_c [_,_,_,_,_,_,_,_,_,_,_,_,_,_,_,_] (l21Know_ok c o height ok1 (by omega)) rfl ?_ ?_ ?_)|(apply gC<;>intro hq<;>(try simp only [nT,nF,n1,n0] at hq)<;>(have hb:=hq)<;>(try simp only [dT,dF,eT,eF] at hb)<;>first|(exfalso;omega)|((try simp only [hq]);clear hq)))<;>(try simp only [go_sem,qa,qb,qc,qd,qe,qf,qg,qh,qi,qj,qk,ql,qm,qn,qo,qp,qq,qr,qs,reduceIte,reduceCtorEq])))
   all_goals first|omega
 by_cases k3:kind=3
 · have e:c.on o ⟨kind,chain,height,n,⟨seq,pk,src,dst,sum,till,ver⟩⟩=c.send pk src dst sum till:=by simp [Chain.on,k3]
   rw [e]
   refine vO tok Tryz.func81 rfl rfl Tryz.ntmps81 Tryz.results81 rfl (by decide) (fun cx hnt hk0=>?_)
   repeat' (first|refine vS fun K hK=>?_|refine hK _ ?_;clear hK K|refine hX ?_;clear hX hY X Y|refine hY ?_;clear hX hY X Y|refine vB ?_|((first|refine vR tok (by rw [hnt];rfl) ?_|refine vC fun X Y hX hY=>?_|refine vT ?_|refine vF [] ?_|refine runS_c [_,_,_,_,_,_,_,_] (l12Send_ok c pk src dst sum till ok1) rfl ?_ ?_ ?_|(apply gC<;>intro hq<;>(try simp only [nT,nF,n1,n0] at hq)<;>(have hb:=hq)<;>(try simp only [dT,dF,eT,eF] at hb)<;>first|(exfalso;omega)|((try simp only [hq]);clear hq)))<;>(try simp only [go_sem,qa,qb,qc,qd,qe,qf,qg,qh,qi,qj,qk,ql,qm,qn,qo,qp,qq,qr,qs,reduceIte,reduceCtorEq])))
   all_goals first|omega
 by_cases k8:kind=8
 · have e:c.on o ⟨kind,chain,height,n,⟨seq,pk,src,dst,sum,till,ver⟩⟩=c.move pk src dst sum:=by simp [Chain.on,k8]
   rw [e]
   cases eB:c.bank.moveB pk src dst sum
   · have e1:c.move pk src dst sum=c:=by simp [Chain.move,eB]
     rw [e1]
     refine vO tok Tryz.func81 rfl rfl Tryz.ntmps81 Tryz.results81 rfl (by decide) (fun cx hnt hk0=>?_)
     repeat' (first|refine vS fun K hK=>?_|refine hK _ ?_;clear hK K|refine hX ?_;clear hX hY X Y|refine hY ?_;clear hX hY X Y|refine vB ?_|((first|refine vR tok (by rw [hnt];rfl) ?_|refine vC fun X Y hX hY=>?_|refine vK ?_|refine vT ?_|refine vF [] ?_|(refine runS_v [] (BankMove_ok c.bank pk src dst sum (by omega) (by omega) (by omega)) ?_ ?_ ?_ ?_ ?_)|(apply gC<;>intro hq<;>(try simp only [nT,nF,n1,n0] at hq)<;>(have hb:=hq)<;>(try simp only [dT,dF,eT,eF] at hb)<;>first|(exfalso;omega)|((try simp only [hq]);clear hq)))<;>(try simp only [go_sem,qa,qb,qc,qd,qe,qf,qg,qh,qi,qj,qk,ql,qm,qn,qo,qp,qq,qr,qs,reduceIte,reduceCtorEq,eB])))
     all_goals first|omega
   · have e1:c.move pk src dst sum={ c with bank:=c.bank.moved pk src dst sum }:=by simp [Chain.move,Bank.moved,eB]
     rw [e1]
     refine vO tok Tryz.func81 rfl rfl Tryz.ntmps81 Tryz.results81 rfl (by decide) (fun cx hnt hk0=>?_)
     repeat' (first|refine vS fun K hK=>?_|refine hK _ ?_;clear hK K|refine hX ?_;clear hX hY X Y|refine hY ?_;clear hX hY X Y|refine vB ?_|((first|refine vR tok (by rw [hnt];rfl) ?_|refine vC fun X Y hX hY=>?_|refine vT ?_|refine vF [] ?_|(refine runS_v [] (BankMove_ok c.bank pk src dst sum (by omega) (by omega) (by omega)) ?_ ?_ ?_ ?_ ?_)|(apply gC<;>intro hq<;>(try simp only [nT,nF,n1,n0] at hq)<;>(have hb:=hq)<;>(try simp only [dT,dF,eT,eF] at hb)<;>first|(exfalso;omega)|((try simp only [hq]);clear hq)))<;>(try simp only [go_sem,qa,qb,qc,qd,qe,qf,qg,qh,qi,qj,qk,ql,qm,qn,qo,qp,qq,qr,qs,reduceIte,reduceCtorEq,eB])))
     all_goals first|omega
 by_cases k7:kind=7∧(n=1 ∨ n=5)
 · have e:c.on o ⟨kind,chain,height,n,⟨seq,pk,src,dst,sum,till,ver⟩⟩=c.step State.new n:=by simp [Chain.on,k7.1,k7.2]
   rw [e]
   obtain ⟨k7,kn⟩:=k7
   rcases kn with kn|kn
   · refine vO tok Tryz.func81 rfl rfl Tryz.ntmps81 Tryz.results81 rfl (by decide) (fun cx hnt hk0=>?_)

     repeat' (first|refine vS fun K hK=>?_|refine hK _ ?_;clear hK K|refine hX ?_;clear hX hY X Y|refine hY ?_;clear hX hY X Y|refine vB ?_|((first|refine vR tok (by rw [hnt];rfl) ?_|refine vC fun X Y hX hY=>?_|refine vT ?_|refine vF [] ?_|(refine AWp.draw (id:=15) tok mixed pl_StateNew_tree0 [16,18] [3,5] (by kernel_rfl) (by kernel_rfl) (by rw [hnt];rfl) ?_)|refine effS_c [] (StateNew_tree) rfl ?_ ?_ ?_|refine effS_c [_,_,_,_,_,_,_,_] (l13Step_ok c State.new n ok1 state_new_ok) rfl ?_ ?_ ?_|((first|apply gR|apply gC)<;>intro hq<;>(try simp only [nT,nF,n1,n0] at hq)<;>(have hb:=hq)<;>(try simp only [dT,dF,eT,eF] at hb)<;>first|(exfalso;omega)|((try simp only [hq]);clear hq)))<;>(try simp only [go_sem,qa,qb,qc,qd,qe,qf,qg,qh,qi,qj,qk,ql,qm,qn,qo,qp,qq,qr,qs,reduceIte,reduceCtorEq]))|refine And.intro ?_ ?_)
     all_goals first|omega
   · refine vO tok Tryz.func81 rfl rfl Tryz.ntmps81 Tryz.results81 rfl (by decide) (fun cx hnt hk0=>?_)

     repeat' (first|refine vS fun K hK=>?_|refine hK _ ?_;clear hK K|refine hX ?_;clear hX hY X Y|refine hY ?_;clear hX hY X Y|refine vB ?_|((first|refine vR tok (by rw [hnt];rfl) ?_|refine vC fun X Y hX hY=>?_|refine vT ?_|refine vF [] ?_|(refine AWp.draw (id:=15) tok mixed pl_StateNew_tree0 [16,18] [3,5] (by kernel_rfl) (by kernel_rfl) (by rw [hnt];rfl) ?_)|refine effS_c [] (StateNew_tree) rfl ?_ ?_ ?_|refine effS_c [_,_,_,_,_,_,_,_] (l13Step_ok c State.new n ok1 state_new_ok) rfl ?_ ?_ ?_|((first|apply gR|apply gC)<;>intro hq<;>(try simp only [nT,nF,n1,n0] at hq)<;>(have hb:=hq)<;>(try simp only [dT,dF,eT,eF] at hb)<;>first|(exfalso;omega)|((try simp only [hq]);clear hq)))<;>(try simp only [go_sem,qa,qb,qc,qd,qe,qf,qg,qh,qi,qj,qk,ql,qm,qn,qo,qp,qq,qr,qs,reduceIte,reduceCtorEq]))|refine And.intro ?_ ?_)
     all_goals first|omega
 · have e:c.on o ⟨kind,chain,height,n,⟨seq,pk,src,dst,sum,till,ver⟩⟩=c.relay o ⟨kind,chain,height,n,⟨seq,pk,src,dst,sum,till,ver⟩⟩:=by
     simp [Chain.on,k1,k2,k3,k8,k7]
   rw [e]
   refine vO tok Tryz.func81 rfl rfl Tryz.ntmps81 Tryz.results81 rfl (by decide) (fun cx hnt hk0=>?_)
   repeat' (first|refine vS fun K hK=>?_|refine hK _ ?_;clear hK K|refine hY ?_;clear hX hY X Y|refine vB ?_|((first|refine vR tok (by rw [hnt];rfl) ?_|refine vC fun X Y hX hY=>?_|refine vK ?_|refine vT ?_|refine vF [] ?_|refine runS_c [_,_,_,_,_,_,_,_,_,_,_,_,_,_,_,_] (l21Relay_ok c o ⟨kind,chain,height,n,⟨seq,pk,src,dst,sum,till,ver⟩⟩ ok1 ok2) rfl ?_ ?_ ?_|((first|apply gR|apply gC)<;>intro hq<;>(try simp only [nT,nF,n1,n0] at hq)<;>(have hb:=hq)<;>(try simp only [dT,dF,eT,eF] at hb)<;>first|(exfalso;omega)|((try simp only [hq]);clear hq)))<;>(try simp only [go_sem,qa,qb,qc,qd,qe,qf,qg,qh,qi,qj,qk,ql,qm,qn,qo,qp,qq,qr,qs,reduceIte,reduceCtorEq])))
   all_goals first|omega|(exfalso;exact k7 ⟨by assumption,by assumption⟩)|(exfalso;exact k7 ⟨by assumption,.inl (by assumption)⟩)|(exfalso;exact k7 ⟨by assumption,.inr (by assumption)⟩)
def pl_l21Do_ok0:Plan:=(.tak 0 (.tak 1 (.tak 2 (.tak 3 (.tak 4 (.tak 5 (.tak 6 (.tak 7 (.tak 8 (.tak 9 (.tak 10 (.tak 12 (.tak 13 (.tak 14 (.tak 15 (.tak 16 (.tak 17 (.tak 19 (.all (.cons 11 (.all (.cons 18 (.all (.cons 20 (.tak 21 (.all (.cons 22 .done .nil))) .nil)) .nil)) (.cons 18 (.all (.cons 11 (.all (.cons 20 (.tak 21 (.all (.cons 22 .done .nil))) .nil)) .nil)) .nil)))))))))))))))))))))
attribute [go_sem] pl_l21Do_ok0
theorem l21Do_ok (w:Two) (ev:Event) (ok1:w.a.ok=true) (ok2:w.b.ok=true):Call Tryz.prog 53 [.g (worldA 0),ev.av] (worldH w 0) 17 (.o (.g (worldA 17))) (worldH (w.on ev) 17) 34:=by
 obtain ⟨kind,chain,height,n,⟨seq,pk,src,dst,sum,till,ver⟩⟩:=ev
 by_cases c1:chain=1
 · subst c1
   have e:w.on ⟨kind,1,height,n,⟨seq,pk,src,dst,sum,till,ver⟩⟩=⟨w.a.on w.b ⟨kind,1,height,n,⟨seq,pk,src,dst,sum,till,ver⟩⟩,w.b⟩:=by simp [Two.on]
   rw [e]
   have ei:In 1 1 2=true:=by decide
   refine vO tok Tryz.func53 rfl rfl Tryz.ntmps53 Tryz.results53 rfl (by decide) (fun cx hnt hk0=>?_)

   repeat' (first|refine vS fun K hK=>?_|refine hK _ ?_;clear hK K|refine hY ?_;clear hX hY X Y|((first|refine vR tok (by rw [hnt];rfl) ?_|refine vC fun X Y hX hY=>?_|refine vK ?_|refine vT ?_|refine vF [] ?_|refine runS_c [] (l6In_ok _ _ _) rfl ?_ ?_ ?_|(refine AWp.draw (id:=3) tok mixed pl_l21Do_ok0 [17,18] [2,3] (by kernel_rfl) (by kernel_rfl) (by rw [hnt];rfl) ?_)|(refine effS_c [_,_,_,_,_,_,_,_,_,_,_,_,_,_,_,_] (l21Chain_ok w.a w.b kind 1 height n seq pk src dst sum till ver ok1 ok2) rfl ?_ ?_ ?_))<;>(try simp only [go_sem,qa,qb,qc,qd,qe,qf,qg,qh,qi,qj,qk,ql,qm,qn,qo,qp,qq,qr,qs,reduceIte,reduceCtorEq,ei]))|refine Fits.of ?_ ?_|refine aL ?_ fun hp=>?_|refine And.intro ?_ ?_|clear hK K)
   all_goals first|omega
 by_cases c2:chain=2
 · subst c2
   have e:w.on ⟨kind,2,height,n,⟨seq,pk,src,dst,sum,till,ver⟩⟩=⟨w.a,w.b.on w.a ⟨kind,2,height,n,⟨seq,pk,src,dst,sum,till,ver⟩⟩⟩:=by simp [Two.on]
   rw [e]
   have ei:In 2 1 2=true:=by decide
   refine vO tok Tryz.func53 rfl rfl Tryz.ntmps53 Tryz.results53 rfl (by decide) (fun cx hnt hk0=>?_)

   repeat' (first|refine vS fun K hK=>?_|refine hK _ ?_;clear hK K|refine hY ?_;clear hX hY X Y|((first|refine vR tok (by rw [hnt];rfl) ?_|refine vC fun X Y hX hY=>?_|refine vK ?_|refine vT ?_|refine vF [] ?_|refine runS_c [] (l6In_ok _ _ _) rfl ?_ ?_ ?_|(refine AWp.draw (id:=3) tok mixed pl_l21Do_ok0 [17,18] [2,3] (by kernel_rfl) (by kernel_rfl) (by rw [hnt];rfl) ?_)|(refine effS_c [_,_,_,_,_,_,_,_,_,_,_,_,_,_,_,_] (l21Chain_ok w.b w.a kind 2 height n seq pk src dst sum till ver ok2 ok1) rfl ?_ ?_ ?_))<;>(try simp only [go_sem,qa,qb,qc,qd,qe,qf,qg,qh,qi,qj,qk,ql,qm,qn,qo,qp,qq,qr,qs,reduceIte,reduceCtorEq,ei]))|refine Fits.of ?_ ?_|refine aL ?_ fun hp=>?_|refine And.intro ?_ ?_|clear hK K)
   all_goals first|omega
 · have e:w.on ⟨kind,chain,height,n,⟨seq,pk,src,dst,sum,till,ver⟩⟩=w:=by simp [Two.on,c1,c2]
   rw [e]
   have ei:In chain 1 2=false:=by
     cases h:In chain 1 2 with
     | false=>rfl
     | true=>rw [In_iff] at h;omega
   refine vO tok Tryz.func53 rfl rfl Tryz.ntmps53 Tryz.results53 rfl (by decide) (fun cx hnt hk0=>?_)

   repeat' (first|refine vS fun K hK=>?_|refine hK _ ?_;clear hK K|refine hX ?_;clear hX hY X Y|((first|refine vR tok (by rw [hnt];rfl) ?_|refine vC fun X Y hX hY=>?_|refine vT ?_|refine vF [] ?_|(refine runS_c [] (l6In_ok _ _ _) rfl ?_ ?_ ?_))<;>(try simp only [go_sem,qa,qb,qc,qd,qe,qf,qg,qh,qi,qj,qk,ql,qm,qn,qo,qp,qq,qr,qs,reduceIte,reduceCtorEq,ei])))
   all_goals first|omega
theorem ChainNew_ok (id:Int) (h:In id 1 2=true):Call Tryz.prog 47 [I id] [] 0 (.tup [.g (chainA (Chain.new id) 0),BB true]) (chainH (Chain.new id) 0) 8:=by
 refine vO tok Tryz.func47 rfl rfl Tryz.ntmps47 Tryz.results47 rfl (by decide) (fun cx hnt hk0=>?_)
 repeat' (first|refine vS fun K hK=>?_|refine hK _ ?_;clear hK K|refine hY ?_;clear hX hY X Y|((first|refine vR tok (by rw [hnt];rfl) ?_|refine vC fun X Y hX hY=>?_|refine vK ?_|refine vT ?_|refine vF [] ?_|refine runS_c [] (l6In_ok _ _ _) rfl ?_ ?_ ?_|refine runS_c [] (BankNew_ok) rfl ?_ ?_ ?_|(refine runS_c [] (StateNew_ok) rfl ?_ ?_ ?_))<;>(try simp only [go_sem,qa,qb,qc,qd,qe,qf,qg,qh,qi,qj,qk,ql,qm,qn,qo,qp,qq,qr,qs,reduceIte,reduceCtorEq,h,Chain.new,Bank.new,State.new])))
theorem WorldNew_ok:Call Tryz.prog 25 [] [] 0 (.o (.g (worldA 0))) (worldH Two.new 0) 17:=by
 have h1:In 1 1 2=true:=by decide
 have h2:In 2 1 2=true:=by decide
 refine vO tok Tryz.func25 rfl rfl Tryz.ntmps25 Tryz.results25 rfl (by decide) (fun cx hnt hk0=>?_)
 repeat' (first|refine vS fun K hK=>?_|refine hK _ ?_;clear hK K|((first|refine vR tok (by rw [hnt];rfl) ?_|refine vT ?_|refine vF [] ?_|refine runS_c [] (ChainNew_ok 1 h1) rfl ?_ ?_ ?_|(refine runS_c [] (ChainNew_ok 2 h2) rfl ?_ ?_ ?_))<;>(try simp only [go_sem,qa,qb,qc,qd,qe,qf,qg,qh,qi,qj,qk,ql,qm,qn,qo,qp,qq,qr,qs,reduceIte,reduceCtorEq,Two.new])))
theorem rle_snoc2 {H:Heap} {fz:Nat→Prop} {τ:List (Nat × Nat)} {N n:Nat} {l:List State} {s:State} {c0 c1 c2 c3 c4 c5 c6:Cell} (hn:n=l.length)
   (h:cle H fz τ N c0 (.t (s.tv 0))∧cle H fz τ N c1 (.t (s.tv 1))∧cle H fz τ N c2 (.t (s.tv 2))∧cle H fz τ N c3 (.t (s.tv 3))∧cle H fz τ N c4 (.t (s.tv 4))∧cle H fz τ N c5 (.t (s.tv 5))∧cle H fz τ N c6 (.t (s.tv 6))) :
   rle H fz τ N 7 (n+1) (app n (fS l) (rowOf 7 [c0,c1,c2,c3,c4,c5,c6])) (fS (l++[s])):=by subst hn;exact rle_snoc h
theorem take_snoc (l:List State) (i:Nat) (h:i < l.length):l.take (i+1)=l.take i++[l.getD i default]:=by
 rw [List.take_succ];simp [List.getD,h]
theorem l12Copy_ok (c:Chain) (ok1:c.ok=true):Call Tryz.prog 112 [c.av] [] 0 (.o (.g (chainA c 0))) (chainH c 0) 8:=by
 obtain ⟨q1,q2,q3,q4,q5,q6⟩:=chain_ok ok1
 have q7:=knows_len q6
 obtain ⟨r1,r2,r3,r4,r5,r6,r7,r8,r9⟩:=state_ok q3
 obtain ⟨b1,b2,b3,b4,b5⟩:=bank_ok q2
 have b6:=parts_len b1
 have b7:=parts_len b2
 have qs:∀ i,(c.past.getD i default).sent.length≤1000∧(c.past.getD i default).live.length≤1000∧(c.past.getD i default).back.length≤1000∧(c.past.getD i default).got.length≤1000:=by
   intro i
   by_cases hi:i < c.past.length
   · obtain ⟨r1,r2,r3,r4,r5,r6,r7,r8,r9⟩:=state_ok (q5 i hi)
     omega
   · have:c.past.getD i default=default:=by simp [List.getD,List.getElem?_eq_none (Nat.le_of_not_lt hi)]
     rw [this];exact ⟨Nat.zero_le _,Nat.zero_le _,Nat.zero_le _,Nat.zero_le _⟩
 refine vO tok Tryz.func112 rfl rfl Tryz.ntmps112 Tryz.results112 rfl (by decide) (fun cx hnt hk0=>?_)

 repeat' (first|refine vS fun K hK=>?_|refine hK _ ?_;clear hK K|refine vB ?_|((refine vR tok (by rw [hnt];rfl) ?_)<;>(try simp only [go_sem,qa,qb,qc,qd,qe,qf,qg,qh,qi,qj,qk,ql,qm,qn,qo,qp,qq,qr,qs,reduceIte,reduceCtorEq])))
 refine AWp.loop (fun i:Nat=>⟨[(1,.o (.c (.ptr 0 0 0 0))),(2,.o (.c (.ptr 1 0 0 0))),(3,.o (.c (.sl 2 7 0 i))),(4,.o (I i))],[(2,.row 7 i (fS (c.past.take i))),(0,c.box),(1,.box [.t (.v (.int .i64 0)),.t (.v (.slice none 0 0)),.t (.v (.slice none 0 0)),.t (.v (.int .i64 0)),.t (.v (.int .i64 0)),.t (.v (.int .i64 0)),.t (.v (.int .i64 0)),.t (.v (.slice none 0 0)),.t (.v (.slice none 0 0)),.t (.v (.slice none 0 0)),.t (.v (.slice none 0 0)),.t (.v (.slice none 0 0)),.t (.v (.slice none 0 0))])],3⟩) (fun i=>i≤c.past.length) (fun i=>c.past.length - i) 0 (Nat.zero_le _) ?_ ?_
 · refine vL hk0 [] ?_;simp only [go_sem,qa,qb,qc,qd,qe,qf,qg,qh,qi,qj,qk,ql,qm,qn,qo,qp,qq,qr,qs,reduceIte,reduceCtorEq]
   all_goals simp
 intro i hi
 obtain ⟨s1,s2,s3,s4⟩:=qs i

 repeat' (first|refine vS fun K hK=>?_|refine hK _ ?_;clear hK K|refine hX ?_;clear hX hY X Y|refine hY ?_;clear hX hY X Y|refine vB ?_|((first|refine vR tok (by rw [hnt];rfl) ?_|refine vC fun X Y hX hY=>?_|refine vK ?_|refine vE ?_|refine vT ?_|refine vF [] ?_|(refine runS_c [] (l3Copy_ok (c.past.getD i default) s1 s2 s3 s4) rfl ?_ ?_ ?_)|(refine AWp.draw (id:=6) tok mixed (.tak 0 (.tak 1 (.tak 2 (.tak 3 (.tak 5 (.tak 6 (.tak 8 (.tak 10 (.tak 11 (.all (.cons 4 (.all (.cons 7 (.all (.cons 9 (.all (.cons 12 (.all (.cons 13 (.all (.cons 14 .done .nil)) .nil)) .nil)) .nil)) (.cons 9 (.all (.cons 7 (.all (.cons 12 (.all (.cons 13 (.all (.cons 14 .done .nil)) .nil)) .nil)) .nil)) .nil))) (.cons 9 (.all (.cons 4 (.all (.cons 7 (.all (.cons 12 (.all (.cons 13 (.all (.cons 14 .done .nil)) .nil)) .nil)) .nil)) .nil)) .nil)))))))))))) [0] [1,2,3] (by kernel_rfl) (by kernel_rfl) (by rw [hnt];rfl) ?_)|(refine effS_c [] (l1Copy_ok c.bank (by omega) (by omega)) rfl ?_ ?_ ?_)|(refine effS_c [] (l3Copy_ok c.state (by omega) (by omega) (by omega) (by omega)) rfl ?_ ?_ ?_)|refine vL hk0 [3,4,5,6] ?_|(apply gC<;>intro hq<;>(try simp only [nT,nF,n1,n0] at hq)<;>(have hb:=hq)<;>(try simp only [dT,dF,eT,eF] at hb)<;>first|(exfalso;omega)|((try simp only [hq]);clear hq)))<;>(try simp only [go_sem,qa,qb,qc,qd,qe,qf,qg,qh,qi,qj,qk,ql,qm,qn,qo,qp,qq,qr,qs,reduceIte,reduceCtorEq]))|refine ⟨i+1,?_,?_,?_⟩|refine Fits.of ?_ ?_|refine aE ?_ fun hp=>?_|refine aC ?_ fun hp=>?_|refine And.intro ?_ ?_|clear hK K)
 all_goals try (first|omega|(simp only [dA,dB,dC];omega))
 all_goals try (rw [take_snoc c.past i (by omega)];refine rle_snoc2 (by simp;omega) ?_;simp only [go_sem,qa,qb,qc,qd,qe,qf,qg,qh,qi,qj,qk,ql,qm,qn,qo,qp,qq,qr,qs,reduceIte,reduceCtorEq];done)
 all_goals try (have ei:i=c.past.length:=by omega
                subst ei;simp [rle_fS];done)
 all_goals skip
def pl_l21Do_10:Plan:=(.tak 0 (.tak 1 (.tak 2 (.tak 3 (.tak 4 (.tak 5 (.tak 6 (.tak 7 (.tak 8 (.tak 9 (.tak 10 (.tak 12 (.tak 13 (.tak 14 (.tak 15 (.tak 16 (.tak 17 (.tak 19 (.all (.cons 11 (.all (.cons 18 (.all (.cons 20 (.tak 21 (.all (.cons 22 .done .nil))) .nil)) .nil)) (.cons 18 (.all (.cons 11 (.all (.cons 20 (.tak 21 (.all (.cons 22 .done .nil))) .nil)) .nil)) .nil)))))))))))))))))))))
attribute [go_sem] pl_l21Do_10
theorem l21Do_1 (a b:Chain) (ev:Event) (hc:ev.chain=1) (ok1:a.ok=true) (ok2:b.ok=true):Call Tryz.prog 53 [.g (worldA 0),ev.av] (worldH ⟨a,b⟩ 0) 17 (.o (.g (worldA 0))) ((0,.box (chainA (a.on b ev) 17++chainA b 9)) ::(chainH (a.on b ev) 17++chainH b 9)) 25:=by
 obtain ⟨kind,chain,height,n,⟨seq,pk,src,dst,sum,till,ver⟩⟩:=ev
 have hc:chain=1:=hc
 subst hc
 have ei:In 1 1 2=true:=by decide
 refine vO tok Tryz.func53 rfl rfl Tryz.ntmps53 Tryz.results53 rfl (by decide) (fun cx hnt hk0=>?_)

 repeat' (first|refine vS fun K hK=>?_|refine hK _ ?_;clear hK K|refine hY ?_;clear hX hY X Y|((first|refine vR tok (by rw [hnt];rfl) ?_|refine vC fun X Y hX hY=>?_|refine vK ?_|refine vT ?_|refine vF [] ?_|refine runS_c [] (l6In_ok _ _ _) rfl ?_ ?_ ?_|(refine AWp.draw (id:=3) tok mixed pl_l21Do_10 [17,18] [2,3] (by kernel_rfl) (by kernel_rfl) (by rw [hnt];rfl) ?_)|(refine effS_c [_,_,_,_,_,_,_,_,_,_,_,_,_,_,_,_] (l21Chain_ok a b kind 1 height n seq pk src dst sum till ver ok1 ok2) rfl ?_ ?_ ?_))<;>(try simp only [go_sem,qa,qb,qc,qd,qe,qf,qg,qh,qi,qj,qk,ql,qm,qn,qo,qp,qq,qr,qs,reduceIte,reduceCtorEq,ei]))|refine Fits.of ?_ ?_|refine aL ?_ fun hp=>?_|refine And.intro ?_ ?_|clear hK K)
 all_goals first|omega
theorem l21Do_2 (a b:Chain) (ev:Event) (hc:ev.chain=2) (ok1:a.ok=true) (ok2:b.ok=true):Call Tryz.prog 53 [.g (worldA 0),ev.av] (worldH ⟨a,b⟩ 0) 17 (.o (.g (worldA 0))) ((0,.box (chainA a 1++chainA (b.on a ev) 17)) ::(chainH a 1++chainH (b.on a ev) 17)) 25:=by
 obtain ⟨kind,chain,height,n,⟨seq,pk,src,dst,sum,till,ver⟩⟩:=ev
 have hc:chain=2:=hc
 subst hc
 have ei:In 2 1 2=true:=by decide
 refine vO tok Tryz.func53 rfl rfl Tryz.ntmps53 Tryz.results53 rfl (by decide) (fun cx hnt hk0=>?_)

 repeat' (first|refine vS fun K hK=>?_|refine hK _ ?_;clear hK K|refine hY ?_;clear hX hY X Y|((first|refine vR tok (by rw [hnt];rfl) ?_|refine vC fun X Y hX hY=>?_|refine vK ?_|refine vT ?_|refine vF [] ?_|refine runS_c [] (l6In_ok _ _ _) rfl ?_ ?_ ?_|(refine AWp.draw (id:=3) tok mixed pl_l21Do_10 [17,18] [2,3] (by kernel_rfl) (by kernel_rfl) (by rw [hnt];rfl) ?_)|(refine effS_c [_,_,_,_,_,_,_,_,_,_,_,_,_,_,_,_] (l21Chain_ok b a kind 2 height n seq pk src dst sum till ver ok2 ok1) rfl ?_ ?_ ?_))<;>(try simp only [go_sem,qa,qb,qc,qd,qe,qf,qg,qh,qi,qj,qk,ql,qm,qn,qo,qp,qq,qr,qs,reduceIte,reduceCtorEq,ei]))|refine Fits.of ?_ ?_|refine aL ?_ fun hp=>?_|refine And.intro ?_ ?_|clear hK K)
 all_goals first|omega
theorem l21Copy_ok (a b:Chain) (ok1:a.ok=true) (ok2:b.ok=true):Call Tryz.prog 79 [.g [.t (chainsT (Two.list ⟨a,b⟩))]] [] 0 (.o (.g (worldA 0))) (worldH ⟨a,b⟩ 0) 17:=by
 have c1:=l12Copy_ok a ok1
 have c2:=l12Copy_ok b ok2
 refine vO tok Tryz.func79 rfl rfl Tryz.ntmps79 Tryz.results79 rfl (by decide) (fun cx hnt hk0=>?_)

 repeat' (first|refine vS fun K hK=>?_|refine hK _ ?_;clear hK K|((first|refine vR tok (by rw [hnt];rfl) ?_|refine vT ?_|refine vF [] ?_|(refine AWp.draw (id:=1) tok mixed (.tak 0 (.tak 1 (.tak 2 (.tak 3 (.tak 5 (.tak 6 (.tak 7 (.tak 8 (.all (.cons 4 (.all (.cons 9 (.all (.cons 10 (.all (.cons 11 (.all (.cons 12 .done .nil)) .nil)) .nil)) .nil)) .nil)))))))))) [0] [1,2] (by kernel_rfl) (by kernel_rfl) (by rw [hnt];rfl) ?_)|refine effS_c [] (c1) rfl ?_ ?_ ?_|(refine effS_c [] (c2) rfl ?_ ?_ ?_))<;>(try simp only [go_sem,qa,qb,qc,qd,qe,qf,qg,qh,qi,qj,qk,ql,qm,qn,qo,qp,qq,qr,qs,reduceIte,reduceCtorEq,Two.list,List.getD_cons_succ,List.getD_cons_zero]))|refine aL ?_ fun hp=>?_|clear hK K)
 all_goals first|omega
theorem ons_ok {c o:Chain} (hc:c.ok=true) (ho:o.ok=true) (es:List Event):(c.ons o es).ok=true:=by
 induction es generalizing c with
 | nil=>exact hc
 | cons e es ih=>exact ih (on_ok hc ho)
theorem l21Carry_1 (a b:Chain) (ha:a.ok=true) (hbo:b.ok=true):Call Tryz.prog 80 [.g (worldA 0),I 1] (worldH ⟨a,b⟩ 0) 17 (.o (.g (worldA 0))) ((0,.box (chainA (a.ons b (carryE b 1)) 17++chainA b 9)) ::(chainH (a.ons b (carryE b 1)) 17++chainH b 9)) 25:=by
 obtain ⟨_,_,hst,hpl,_,_⟩:=chain_ok hbo
 obtain ⟨_,_,hsl,_⟩:=state_ok hst
 have k1:=l21Do_1 a b (evKnow 1 b.past.length) rfl (ha) (hbo)
 refine vO tok Tryz.func80 rfl rfl Tryz.ntmps80 Tryz.results80 rfl (by decide) (fun cx hnt hk0=>?_)

 repeat' (first|refine vS fun K hK=>?_|refine hK _ ?_;clear hK K|refine vB ?_|((first|refine vR tok (by rw [hnt];rfl) ?_|(refine runS_c [0,1,2,3,4,5,6,7,8,9,10,11,12,13,14,15,16] (k1) rfl ?_ ?_ ?_))<;>(try simp only [go_sem,qa,qb,qc,qd,qe,qf,qg,qh,qi,qj,qk,ql,qm,qn,qo,qp,qq,qr,qs,reduceIte,reduceCtorEq]))|refine Fits.of ?_ ?_|refine aL ?_ fun hp=>?_|refine And.intro ?_ ?_|clear hK K)
 all_goals try omega
 -- the steps
 refine AWp.loop (fun i:Nat=>⟨[(1,.o (I 1)),(2,.o (.c (.ptr 17 0 0 0))),(4,.o (.c (.ptr 18 0 0 0))),(5,.o (.c (.ptr 19 0 0 0))),(6,.o (I (b.past.length:Nat))),(7,.o (I ((i:Int)+2)))],(17,.box (worldA 0)) ::(18,.box [.t (.v (.slice none 0 0))]) ::(19,.box (chainA b 9)) ::(0,.box (chainA (a.ons b (cSteps b 1 i)) 20++chainA b 9)) ::(chainH (a.ons b (cSteps b 1 i)) 20++chainH b 9),28⟩) (fun i=>i≤6) (fun i=>6 - i) 0 (Nat.zero_le _) ?_ ?_
 · refine vL hk0 [] ?_;simp only [go_sem,qa,qb,qc,qd,qe,qf,qg,qh,qi,qj,qk,ql,qm,qn,qo,qp,qq,qr,qs,reduceIte,reduceCtorEq,cSteps_zero,Chain.ons,List.foldl_cons,List.foldl_nil,evKnow,Packet.none]
   all_goals first|rfl|omega|simp
 intro i hi
 by_cases hlt:i < 6
 · by_cases h3:i=3
   · subst h3
     have e1:a.ons b (cSteps b 1 (3+1))=a.ons b (cSteps b 1 3):=by rw [cSteps_succ,if_pos rfl]
     repeat' (first|refine vS fun K hK=>?_|refine hK _ ?_;clear hK K|refine hX ?_;clear hX hY X Y|refine hY ?_;clear hX hY X Y|refine vB ?_|((first|refine vR tok (by rw [hnt];rfl) ?_|refine vC fun X Y hX hY=>?_|refine vK ?_|(refine vL hk0 [] ?_))<;>(try simp only [go_sem,qa,qb,qc,qd,qe,qf,qg,qh,qi,qj,qk,ql,qm,qn,qo,qp,qq,qr,qs,reduceIte,reduceCtorEq,e1]))|refine ⟨3+1,?_,?_,?_⟩|refine Fits.of ?_ ?_|refine And.intro ?_ ?_|clear hK K)
     all_goals try (first|omega|(simp only [dA,dB,dC];omega))
   · have e1:a.ons b (cSteps b 1 (i+1))=(a.ons b (cSteps b 1 i)).on b (evStep 1 b.past.length ((i:Int)+2)):=by rw [cSteps_succ,if_neg h3,ons_snoc]
     have k2:=l21Do_1 (a.ons b (cSteps b 1 i)) b (evStep 1 b.past.length ((i:Int)+2)) rfl (ons_ok ha hbo _) (hbo)
     repeat' (first|refine vS fun K hK=>?_|refine hK _ ?_;clear hK K|refine hX ?_;clear hX hY X Y|refine vB ?_|((first|refine vR tok (by rw [hnt];rfl) ?_|refine vC fun X Y hX hY=>?_|refine vK ?_|refine runS_c [0,20,21,22,23,24,25,26,27,9,10,11,12,13,14,15,16] (k2) rfl ?_ ?_ ?_|refine vL hk0 [] ?_|(apply gC<;>intro hq<;>(try simp only [nT,nF,n1,n0] at hq)<;>(have hb:=hq)<;>(try simp only [dT,dF,eT,eF] at hb)<;>first|(exfalso;omega)|((try simp only [hq]);clear hq)))<;>(try simp only [go_sem,qa,qb,qc,qd,qe,qf,qg,qh,qi,qj,qk,ql,qm,qn,qo,qp,qq,qr,qs,reduceIte,reduceCtorEq,e1,evStep,Packet.none]))|refine ⟨i+1,?_,?_,?_⟩|refine Fits.of ?_ ?_|refine And.intro ?_ ?_|clear hK K)
     all_goals try (first|omega|(simp only [dA,dB,dC];omega))
 have e6:i=6:=by omega
 subst e6
 repeat' (first|refine vS fun K hK=>?_|refine hK _ ?_;clear hK K|refine hY ?_;clear hX hY X Y|refine vB ?_|((first|refine vR tok (by rw [hnt];rfl) ?_|refine vC fun X Y hX hY=>?_|(refine vE ?_))<;>(try simp only [go_sem,qa,qb,qc,qd,qe,qf,qg,qh,qi,qj,qk,ql,qm,qn,qo,qp,qq,qr,qs,reduceIte,reduceCtorEq]))|clear hK K)
 all_goals try omega
 -- the packets
 refine AWp.loop (fun i:Nat=>⟨[(1,.o (I 1)),(2,.o (.c (.ptr 17 0 0 0))),(4,.o (.c (.ptr 18 0 0 0))),(5,.o (.c (.ptr 19 0 0 0))),(6,.o (I (b.past.length:Nat))),(8,.o (I i))],(17,.box (worldA 0)) ::(18,.box [.t (.v (.slice none 0 0))]) ::(19,.box (chainA b 9)) ::(0,.box (chainA (a.ons b (cGets b 1 i)) 20++chainA b 9)) ::(chainH (a.ons b (cGets b 1 i)) 20++chainH b 9),28⟩) (fun i=>i≤b.state.sent.length) (fun i=>b.state.sent.length - i) 0 (Nat.zero_le _) ?_ ?_
 · refine vL hk0 [] ?_;simp only [go_sem,qa,qb,qc,qd,qe,qf,qg,qh,qi,qj,qk,ql,qm,qn,qo,qp,qq,qr,qs,reduceIte,reduceCtorEq,cGets_zero]
   all_goals first|rfl|omega|simp
 clear hi hlt
 intro i hi
 by_cases hlt:i < b.state.sent.length
 · have e1:a.ons b (cGets b 1 (i+1))=(a.ons b (cGets b 1 i)).on b (evGet 1 b.past.length (b.state.sent.getD i default)):=by rw [cGets_succ _ _ _ hlt,ons_snoc]
   have k2:=l21Do_1 (a.ons b (cGets b 1 i)) b (evGet 1 b.past.length (b.state.sent.getD i default)) rfl (ons_ok ha hbo _) (hbo)



   repeat' (first|refine vS fun K hK=>?_|refine hK _ ?_;clear hK K|refine hX ?_;clear hX hY X Y|refine vB ?_|((first|refine vR tok (by rw [hnt];rfl) ?_|refine vC fun X Y hX hY=>?_|refine vK ?_|(refine AWp.draw (id:=12) tok mixed (.tak 1 (.tak 2 (.tak 3 (.tak 4 (.tak 5 (.tak 6 (.tak 7 (.all (.cons 0 (.all (.cons 8 (.all (.cons 9 (.all (.cons 10 (.all (.cons 11 .done .nil)) .nil)) .nil)) .nil)) (.cons 8 (.all (.cons 0 (.all (.cons 9 (.all (.cons 10 (.all (.cons 11 .done .nil)) .nil)) .nil)) (.cons 9 (.all (.cons 0 (.all (.cons 10 (.all (.cons 11 .done .nil)) .nil)) .nil)) .nil))) .nil)))))))))) [19] [1,2,5,6,8] (by kernel_rfl) (by kernel_rfl) (by rw [hnt];rfl) ?_)|refine effS_c [0,20,21,22,23,24,25,26,27,9,10,11,12,13,14,15,16] (k2) rfl ?_ ?_ ?_|refine vL hk0 [] ?_|(apply gC<;>intro hq<;>(try simp only [nT,nF,n1,n0] at hq)<;>(have hb:=hq)<;>(try simp only [dT,dF,eT,eF] at hb)<;>first|(exfalso;omega)|((try simp only [hq]);clear hq)))<;>(try simp only [go_sem,qa,qb,qc,qd,qe,qf,qg,qh,qi,qj,qk,ql,qm,qn,qo,qp,qq,qr,qs,reduceIte,reduceCtorEq,e1,evGet]))|refine ⟨i+1,?_,?_,?_⟩|refine Fits.of ?_ ?_|refine aL ?_ fun hp=>?_|refine aE ?_ fun hp=>?_|refine aC ?_ fun hp=>?_|refine And.intro ?_ ?_|clear hK K)
   all_goals try (first|omega|(simp only [dA,dB,dC];omega))
 have e6:i=b.state.sent.length:=by omega
 subst e6

 repeat' (first|refine vS fun K hK=>?_|refine hK _ ?_;clear hK K|refine hY ?_;clear hX hY X Y|refine vB ?_|((first|refine vR tok (by rw [hnt];rfl) ?_|refine vC fun X Y hX hY=>?_|refine vE ?_|(apply gC<;>intro hq<;>(try simp only [nT,nF,n1,n0] at hq)<;>(have hb:=hq)<;>(try simp only [dT,dF,eT,eF] at hb)<;>first|(exfalso;omega)|((try simp only [hq]);clear hq)))<;>(try simp only [go_sem,qa,qb,qc,qd,qe,qf,qg,qh,qi,qj,qk,ql,qm,qn,qo,qp,qq,qr,qs,reduceIte,reduceCtorEq]))|clear hK K)
 all_goals try omega
 -- what became of them
 refine AWp.loop (fun i:Nat=>⟨[(1,.o (I 1)),(2,.o (.c (.ptr 17 0 0 0))),(4,.o (.c (.ptr 18 0 0 0))),(5,.o (.c (.ptr 19 0 0 0))),(6,.o (I (b.past.length:Nat))),(9,.o (I ((i:Int)+1)))],(17,.box (worldA 0)) ::(18,.box [.t (.v (.slice none 0 0))]) ::(19,.box (chainA b 9)) ::(0,.box (chainA (a.ons b (cTells b 1 i)) 20++chainA b 9)) ::(chainH (a.ons b (cTells b 1 i)) 20++chainH b 9),28⟩) (fun i=>i≤8) (fun i=>8 - i) 0 (Nat.zero_le _) ?_ ?_
 · refine vL hk0 [] ?_;simp only [go_sem,qa,qb,qc,qd,qe,qf,qg,qh,qi,qj,qk,ql,qm,qn,qo,qp,qq,qr,qs,reduceIte,reduceCtorEq,cTells_zero]
   all_goals first|rfl|omega|simp
 clear hi hlt
 intro i hi
 by_cases hlt:i < 8
 · have e1:a.ons b (cTells b 1 (i+1))=((a.ons b (cTells b 1 i)).on b (evTell 1 b.past.length ((i:Int)+1))).on b (evLate 1 b.past.length ((i:Int)+1)):=by rw [cTells_succ,ons_snoc,ons_snoc]
   have k2:=l21Do_1 (a.ons b (cTells b 1 i)) b (evTell 1 b.past.length ((i:Int)+1)) rfl (ons_ok ha hbo _) (hbo)
   have k3:=l21Do_1 ((a.ons b (cTells b 1 i)).on b (evTell 1 b.past.length ((i:Int)+1))) b (evLate 1 b.past.length ((i:Int)+1)) rfl (on_ok (ons_ok ha hbo _) hbo) (hbo)
   repeat' (first|refine vS fun K hK=>?_|refine hK _ ?_;clear hK K|refine hX ?_;clear hX hY X Y|refine vB ?_|((first|refine vR tok (by rw [hnt];rfl) ?_|refine vC fun X Y hX hY=>?_|refine vK ?_|refine runS_c [0,20,21,22,23,24,25,26,27,9,10,11,12,13,14,15,16] (k2) rfl ?_ ?_ ?_|refine runS_c [0,28,29,30,31,32,33,34,35,9,10,11,12,13,14,15,16] (k3) rfl ?_ ?_ ?_|refine vL hk0 [] ?_|(apply gC<;>intro hq<;>(try simp only [nT,nF,n1,n0] at hq)<;>(have hb:=hq)<;>(try simp only [dT,dF,eT,eF] at hb)<;>first|(exfalso;omega)|((try simp only [hq]);clear hq)))<;>(try simp only [go_sem,qa,qb,qc,qd,qe,qf,qg,qh,qi,qj,qk,ql,qm,qn,qo,qp,qq,qr,qs,reduceIte,reduceCtorEq,e1,evTell,evLate,Packet.none]))|refine ⟨i+1,?_,?_,?_⟩|refine Fits.of ?_ ?_|refine And.intro ?_ ?_|clear hK K)
   all_goals try (first|omega|(simp only [dA,dB,dC];omega))
 have e6:i=8:=by omega
 subst e6
 repeat' (first|refine vS fun K hK=>?_|refine hK _ ?_;clear hK K|refine hY ?_;clear hX hY X Y|((first|refine vR tok (by rw [hnt];rfl) ?_|refine vC fun X Y hX hY=>?_|refine vE ?_|refine vT ?_|(refine vF [] ?_))<;>(try simp only [go_sem,qa,qb,qc,qd,qe,qf,qg,qh,qi,qj,qk,ql,qm,qn,qo,qp,qq,qr,qs,reduceIte,reduceCtorEq,cTells_all]))|clear hK K)
 all_goals try omega
theorem l21Carry_2 (a b:Chain) (ha:a.ok=true) (hbo:b.ok=true):Call Tryz.prog 80 [.g (worldA 0),I 2] (worldH ⟨a,b⟩ 0) 17 (.o (.g (worldA 0))) ((0,.box (chainA a 1++chainA (b.ons a (carryE a 2)) 17)) ::(chainH a 1++chainH (b.ons a (carryE a 2)) 17)) 25:=by
 obtain ⟨_,_,hst,hpl,_,_⟩:=chain_ok ha
 obtain ⟨_,_,hsl,_⟩:=state_ok hst
 have k1:=l21Do_2 a b (evKnow 2 a.past.length) rfl (ha) (hbo)
 refine vO tok Tryz.func80 rfl rfl Tryz.ntmps80 Tryz.results80 rfl (by decide) (fun cx hnt hk0=>?_)

 repeat' (first|refine vS fun K hK=>?_|refine hK _ ?_;clear hK K|refine vB ?_|((first|refine vR tok (by rw [hnt];rfl) ?_|(refine runS_c [0,1,2,3,4,5,6,7,8,9,10,11,12,13,14,15,16] (k1) rfl ?_ ?_ ?_))<;>(try simp only [go_sem,qa,qb,qc,qd,qe,qf,qg,qh,qi,qj,qk,ql,qm,qn,qo,qp,qq,qr,qs,reduceIte,reduceCtorEq]))|refine Fits.of ?_ ?_|refine aL ?_ fun hp=>?_|refine And.intro ?_ ?_|clear hK K)
 all_goals try omega
 -- the steps
 refine AWp.loop (fun i:Nat=>⟨[(1,.o (I 2)),(2,.o (.c (.ptr 17 0 0 0))),(4,.o (.c (.ptr 18 0 0 0))),(5,.o (.c (.ptr 19 0 0 0))),(6,.o (I (a.past.length:Nat))),(7,.o (I ((i:Int)+2)))],(17,.box (worldA 0)) ::(18,.box [.t (.v (.slice none 0 0))]) ::(19,.box (chainA a 1)) ::(0,.box (chainA a 1++chainA (b.ons a (cSteps a 2 i)) 20)) ::(chainH a 1++chainH (b.ons a (cSteps a 2 i)) 20),28⟩) (fun i=>i≤6) (fun i=>6 - i) 0 (Nat.zero_le _) ?_ ?_
 · refine vL hk0 [] ?_;simp only [go_sem,qa,qb,qc,qd,qe,qf,qg,qh,qi,qj,qk,ql,qm,qn,qo,qp,qq,qr,qs,reduceIte,reduceCtorEq,cSteps_zero,Chain.ons,List.foldl_cons,List.foldl_nil,evKnow,Packet.none]
   all_goals first|rfl|omega|simp
 intro i hi
 by_cases hlt:i < 6
 · by_cases h3:i=3
   · subst h3
     have e1:b.ons a (cSteps a 2 (3+1))=b.ons a (cSteps a 2 3):=by rw [cSteps_succ,if_pos rfl]
     repeat' (first|refine vS fun K hK=>?_|refine hK _ ?_;clear hK K|refine hX ?_;clear hX hY X Y|refine hY ?_;clear hX hY X Y|refine vB ?_|((first|refine vR tok (by rw [hnt];rfl) ?_|refine vC fun X Y hX hY=>?_|refine vK ?_|(refine vL hk0 [] ?_))<;>(try simp only [go_sem,qa,qb,qc,qd,qe,qf,qg,qh,qi,qj,qk,ql,qm,qn,qo,qp,qq,qr,qs,reduceIte,reduceCtorEq,e1]))|refine ⟨3+1,?_,?_,?_⟩|refine Fits.of ?_ ?_|refine And.intro ?_ ?_|clear hK K)
     all_goals try (first|omega|(simp only [dA,dB,dC];omega))
   · have e1:b.ons a (cSteps a 2 (i+1))=(b.ons a (cSteps a 2 i)).on a (evStep 2 a.past.length ((i:Int)+2)):=by rw [cSteps_succ,if_neg h3,ons_snoc]
     have k2:=l21Do_2 a (b.ons a (cSteps a 2 i)) (evStep 2 a.past.length ((i:Int)+2)) rfl (ha) (ons_ok hbo ha _)
     repeat' (first|refine vS fun K hK=>?_|refine hK _ ?_;clear hK K|refine hX ?_;clear hX hY X Y|refine vB ?_|((first|refine vR tok (by rw [hnt];rfl) ?_|refine vC fun X Y hX hY=>?_|refine vK ?_|refine runS_c [0,1,2,3,4,5,6,7,8,20,21,22,23,24,25,26,27] (k2) rfl ?_ ?_ ?_|refine vL hk0 [] ?_|(apply gC<;>intro hq<;>(try simp only [nT,nF,n1,n0] at hq)<;>(have hb:=hq)<;>(try simp only [dT,dF,eT,eF] at hb)<;>first|(exfalso;omega)|((try simp only [hq]);clear hq)))<;>(try simp only [go_sem,qa,qb,qc,qd,qe,qf,qg,qh,qi,qj,qk,ql,qm,qn,qo,qp,qq,qr,qs,reduceIte,reduceCtorEq,e1,evStep,Packet.none]))|refine ⟨i+1,?_,?_,?_⟩|refine Fits.of ?_ ?_|refine And.intro ?_ ?_|clear hK K)
     all_goals try (first|omega|(simp only [dA,dB,dC];omega))
 have e6:i=6:=by omega
 subst e6
 repeat' (first|refine vS fun K hK=>?_|refine hK _ ?_;clear hK K|refine hY ?_;clear hX hY X Y|refine vB ?_|((first|refine vR tok (by rw [hnt];rfl) ?_|refine vC fun X Y hX hY=>?_|(refine vE ?_))<;>(try simp only [go_sem,qa,qb,qc,qd,qe,qf,qg,qh,qi,qj,qk,ql,qm,qn,qo,qp,qq,qr,qs,reduceIte,reduceCtorEq]))|clear hK K)
 all_goals try omega
 -- the packets
 refine AWp.loop (fun i:Nat=>⟨[(1,.o (I 2)),(2,.o (.c (.ptr 17 0 0 0))),(4,.o (.c (.ptr 18 0 0 0))),(5,.o (.c (.ptr 19 0 0 0))),(6,.o (I (a.past.length:Nat))),(8,.o (I i))],(17,.box (worldA 0)) ::(18,.box [.t (.v (.slice none 0 0))]) ::(19,.box (chainA a 1)) ::(0,.box (chainA a 1++chainA (b.ons a (cGets a 2 i)) 20)) ::(chainH a 1++chainH (b.ons a (cGets a 2 i)) 20),28⟩) (fun i=>i≤a.state.sent.length) (fun i=>a.state.sent.length - i) 0 (Nat.zero_le _) ?_ ?_
 · refine vL hk0 [] ?_;simp only [go_sem,qa,qb,qc,qd,qe,qf,qg,qh,qi,qj,qk,ql,qm,qn,qo,qp,qq,qr,qs,reduceIte,reduceCtorEq,cGets_zero]
   all_goals first|rfl|omega|simp
 clear hi hlt
 intro i hi
 by_cases hlt:i < a.state.sent.length
 · have e1:b.ons a (cGets a 2 (i+1))=(b.ons a (cGets a 2 i)).on a (evGet 2 a.past.length (a.state.sent.getD i default)):=by rw [cGets_succ _ _ _ hlt,ons_snoc]
   have k2:=l21Do_2 a (b.ons a (cGets a 2 i)) (evGet 2 a.past.length (a.state.sent.getD i default)) rfl (ha) (ons_ok hbo ha _)



   repeat' (first|refine vS fun K hK=>?_|refine hK _ ?_;clear hK K|refine hX ?_;clear hX hY X Y|refine vB ?_|((first|refine vR tok (by rw [hnt];rfl) ?_|refine vC fun X Y hX hY=>?_|refine vK ?_|(refine AWp.draw (id:=12) tok mixed (.tak 1 (.tak 2 (.tak 3 (.tak 4 (.tak 5 (.tak 6 (.tak 7 (.all (.cons 0 (.all (.cons 8 (.all (.cons 9 (.all (.cons 10 (.all (.cons 11 .done .nil)) .nil)) .nil)) .nil)) (.cons 8 (.all (.cons 0 (.all (.cons 9 (.all (.cons 10 (.all (.cons 11 .done .nil)) .nil)) .nil)) (.cons 9 (.all (.cons 0 (.all (.cons 10 (.all (.cons 11 .done .nil)) .nil)) .nil)) .nil))) .nil)))))))))) [19] [1,2,5,6,8] (by kernel_rfl) (by kernel_rfl) (by rw [hnt];rfl) ?_)|refine effS_c [0,1,2,3,4,5,6,7,8,20,21,22,23,24,25,26,27] (k2) rfl ?_ ?_ ?_|refine vL hk0 [] ?_|(apply gC<;>intro hq<;>(try simp only [nT,nF,n1,n0] at hq)<;>(have hb:=hq)<;>(try simp only [dT,dF,eT,eF] at hb)<;>first|(exfalso;omega)|((try simp only [hq]);clear hq)))<;>(try simp only [go_sem,qa,qb,qc,qd,qe,qf,qg,qh,qi,qj,qk,ql,qm,qn,qo,qp,qq,qr,qs,reduceIte,reduceCtorEq,e1,evGet]))|refine ⟨i+1,?_,?_,?_⟩|refine Fits.of ?_ ?_|refine aL ?_ fun hp=>?_|refine aE ?_ fun hp=>?_|refine aC ?_ fun hp=>?_|refine And.intro ?_ ?_|clear hK K)
   all_goals try (first|omega|(simp only [dA,dB,dC];omega))
 have e6:i=a.state.sent.length:=by omega
 subst e6

 repeat' (first|refine vS fun K hK=>?_|refine hK _ ?_;clear hK K|refine hY ?_;clear hX hY X Y|refine vB ?_|((first|refine vR tok (by rw [hnt];rfl) ?_|refine vC fun X Y hX hY=>?_|refine vE ?_|(apply gC<;>intro hq<;>(try simp only [nT,nF,n1,n0] at hq)<;>(have hb:=hq)<;>(try simp only [dT,dF,eT,eF] at hb)<;>first|(exfalso;omega)|((try simp only [hq]);clear hq)))<;>(try simp only [go_sem,qa,qb,qc,qd,qe,qf,qg,qh,qi,qj,qk,ql,qm,qn,qo,qp,qq,qr,qs,reduceIte,reduceCtorEq]))|clear hK K)
 all_goals try omega
 -- what became of them
 refine AWp.loop (fun i:Nat=>⟨[(1,.o (I 2)),(2,.o (.c (.ptr 17 0 0 0))),(4,.o (.c (.ptr 18 0 0 0))),(5,.o (.c (.ptr 19 0 0 0))),(6,.o (I (a.past.length:Nat))),(9,.o (I ((i:Int)+1)))],(17,.box (worldA 0)) ::(18,.box [.t (.v (.slice none 0 0))]) ::(19,.box (chainA a 1)) ::(0,.box (chainA a 1++chainA (b.ons a (cTells a 2 i)) 20)) ::(chainH a 1++chainH (b.ons a (cTells a 2 i)) 20),28⟩) (fun i=>i≤8) (fun i=>8 - i) 0 (Nat.zero_le _) ?_ ?_
 · refine vL hk0 [] ?_;simp only [go_sem,qa,qb,qc,qd,qe,qf,qg,qh,qi,qj,qk,ql,qm,qn,qo,qp,qq,qr,qs,reduceIte,reduceCtorEq,cTells_zero]
   all_goals first|rfl|omega|simp
 clear hi hlt
 intro i hi
 by_cases hlt:i < 8
 · have e1:b.ons a (cTells a 2 (i+1))=((b.ons a (cTells a 2 i)).on a (evTell 2 a.past.length ((i:Int)+1))).on a (evLate 2 a.past.length ((i:Int)+1)):=by rw [cTells_succ,ons_snoc,ons_snoc]
   have k2:=l21Do_2 a (b.ons a (cTells a 2 i)) (evTell 2 a.past.length ((i:Int)+1)) rfl (ha) (ons_ok hbo ha _)
   have k3:=l21Do_2 a ((b.ons a (cTells a 2 i)).on a (evTell 2 a.past.length ((i:Int)+1))) (evLate 2 a.past.length ((i:Int)+1)) rfl (ha) (on_ok (ons_ok hbo ha _) ha)
   repeat' (first|refine vS fun K hK=>?_|refine hK _ ?_;clear hK K|refine hX ?_;clear hX hY X Y|refine vB ?_|((first|refine vR tok (by rw [hnt];rfl) ?_|refine vC fun X Y hX hY=>?_|refine vK ?_|refine runS_c [0,1,2,3,4,5,6,7,8,20,21,22,23,24,25,26,27] (k2) rfl ?_ ?_ ?_|refine runS_c [0,1,2,3,4,5,6,7,8,28,29,30,31,32,33,34,35] (k3) rfl ?_ ?_ ?_|refine vL hk0 [] ?_|(apply gC<;>intro hq<;>(try simp only [nT,nF,n1,n0] at hq)<;>(have hb:=hq)<;>(try simp only [dT,dF,eT,eF] at hb)<;>first|(exfalso;omega)|((try simp only [hq]);clear hq)))<;>(try simp only [go_sem,qa,qb,qc,qd,qe,qf,qg,qh,qi,qj,qk,ql,qm,qn,qo,qp,qq,qr,qs,reduceIte,reduceCtorEq,e1,evTell,evLate,Packet.none]))|refine ⟨i+1,?_,?_,?_⟩|refine Fits.of ?_ ?_|refine And.intro ?_ ?_|clear hK K)
   all_goals try (first|omega|(simp only [dA,dB,dC];omega))
 have e6:i=8:=by omega
 subst e6
 repeat' (first|refine vS fun K hK=>?_|refine hK _ ?_;clear hK K|refine hY ?_;clear hX hY X Y|((first|refine vR tok (by rw [hnt];rfl) ?_|refine vC fun X Y hX hY=>?_|refine vE ?_|refine vT ?_|(refine vF [] ?_))<;>(try simp only [go_sem,qa,qb,qc,qd,qe,qf,qg,qh,qi,qj,qk,ql,qm,qn,qo,qp,qq,qr,qs,reduceIte,reduceCtorEq,cTells_all]))|clear hK K)
 all_goals try omega
theorem StateOk_ok (s:State) (h1:(s.sent.length:Int) < 1099511627776) (h4:(s.got.length:Int) < 1099511627776):Call Tryz.prog 152 [s.av] [] 0 (.o (BB s.ok)) [] 0:=by
 refine vO tok Tryz.func152 rfl rfl Tryz.ntmps152 Tryz.results152 rfl (by decide) (fun cx hnt hk0=>?_)

 repeat' (first|refine vS fun K hK=>?_|refine hK _ ?_;clear hK K|refine hX ?_;clear hX hY X Y|refine hY ?_;clear hX hY X Y|refine vB ?_|((first|refine vR tok (by rw [hnt];rfl) ?_|refine vC fun X Y hX hY=>?_|refine vK ?_|refine vT ?_|refine vF [] ?_|refine runS_c [] (l6In_ok _ _ _) rfl ?_ ?_ ?_|((first|apply gR|apply gC)<;>intro hq<;>(try simp only [nT,nF,n1,n0] at hq)<;>(have hb:=hq)<;>(try simp only [dT,dF,eT,eF] at hb)<;>first|(exfalso;omega)|((try simp only [hq]);clear hq)))<;>(try simp only [go_sem,qa,qb,qc,qd,qe,qf,qg,qh,qi,qj,qk,ql,qm,qn,qo,qp,qq,qr,qs,reduceIte,reduceCtorEq]))|clear hK K)
 all_goals try (first|omega|(simp only [dA,dB,dC];omega))
 all_goals try (first|(simp [-List.getD_eq_getElem?_getD,State.ok, *];done)|(simp [-List.getD_eq_getElem?_getD,State.ok, *];omega)|(simp [-List.getD_eq_getElem?_getD,State.ok, *];intros;omega))
 refine AWp.loop (fun i:Nat=>⟨[(1,.o (.c (.ptr 0 0 0 0))),(2,.o (BB false)),(3,.o (I s.sent.length)),(4,.o (I i))],[(0,s.box)],1⟩) (fun i=>i≤s.sent.length∧rall i s.sentOk=true) (fun i=>s.sent.length - i) 0 ⟨Nat.zero_le _,rall_zero⟩ ?_ ?_
 · refine vL hk0 [] ?_;simp only [go_sem,qa,qb,qc,qd,qe,qf,qg,qh,qi,qj,qk,ql,qm,qn,qo,qp,qq,qr,qs,reduceIte,reduceCtorEq]
   simp
 intro i ⟨hi,hr⟩
 repeat' (first|refine vS fun K hK=>?_|refine hK _ ?_;clear hK K|refine hX ?_;clear hX hY X Y|refine hY ?_;clear hX hY X Y|refine vB ?_|((first|refine vR tok (by rw [hnt];rfl) ?_|refine vC fun X Y hX hY=>?_|refine vK ?_|refine vE ?_|refine vT ?_|refine vF [] ?_|(refine AWp.draw (id:=7) tok mixed (.tak 0 (.tak 1 (.tak 2 (.tak 3 (.tak 4 (.all (.cons 5 (.tak 6 (.tak 7 (.tak 8 (.tak 9 (.tak 10 (.tak 11 (.tak 12 (.tak 13 (.tak 14 (.tak 15 (.tak 16 (.tak 17 (.tak 18 (.tak 19 (.tak 20 (.tak 21 (.tak 22 (.tak 23 (.tak 24 (.tak 25 (.tak 26 (.tak 27 (.tak 28 (.tak 29 (.tak 30 (.tak 31 (.tak 32 (.tak 33 (.tak 34 (.tak 35 (.tak 36 (.tak 37 (.tak 38 (.tak 39 (.tak 40 (.tak 41 (.tak 42 .done))))))))))))))))))))))))))))))))))))) .nil))))))) [0] [1,4] (by kernel_rfl) (by kernel_rfl) (by rw [hnt];rfl) ?_)|(refine effS_c [] (PacketOk_ok (s.sent.getD i default)) rfl ?_ ?_ ?_)|refine vL hk0 [] ?_|((first|apply gC|apply gT)<;>intro hq<;>(try simp only [nT,nF,n1,n0] at hq)<;>(have hb:=hq)<;>(try simp only [dT,dF,eT,eF] at hb)<;>first|(exfalso;omega)|((try simp only [hq]);clear hq)))<;>(try simp only [go_sem,qa,qb,qc,qd,qe,qf,qg,qh,qi,qj,qk,ql,qm,qn,qo,qp,qq,qr,qs,reduceIte,reduceCtorEq]))|refine ⟨i+1,?_,?_,?_⟩|refine Fits.of ?_ ?_|refine aE ?_ fun hp=>?_|refine aC ?_ fun hp=>?_|refine And.intro ?_ ?_|clear hK K)
 all_goals try (first|omega|(simp only [dA,dB,dC];omega))
 all_goals try (have h0:s.sentOk i=false:=by simp [-List.getD_eq_getElem?_getD,State.sentOk, *]
                have h9:=rall_false (p:=s.sentOk) (i:=i) (n:=s.sent.length) (by omega) h0
                simp [-List.getD_eq_getElem?_getD,State.ok,h9];done)
 all_goals try (refine rall_succ hr ?_;simp [-List.getD_eq_getElem?_getD,State.sentOk, *];omega)
 have hr2:rall s.sent.length s.sentOk=true:=by rw [show s.sent.length=i from by omega];exact hr
 refine AWp.loop (fun i:Nat=>⟨[(1,.o (.c (.ptr 0 0 0 0))),(2,.o (BB false)),(5,.o (I i))],[(0,s.box)],1⟩) (fun i=>i≤s.got.length∧rall i (fun i=>In (s.got.getD i 0) 0 2)=true) (fun i=>s.got.length - i) 0 ⟨Nat.zero_le _,rall_zero⟩ ?_ ?_
 · refine vL hk0 [] ?_;simp only [go_sem,qa,qb,qc,qd,qe,qf,qg,qh,qi,qj,qk,ql,qm,qn,qo,qp,qq,qr,qs,reduceIte,reduceCtorEq]
   simp
 intro j ⟨hj,hrj⟩
 repeat' (first|refine vS fun K hK=>?_|refine hK _ ?_;clear hK K|refine hX ?_;clear hX hY X Y|refine hY ?_;clear hX hY X Y|refine vB ?_|((first|refine vR tok (by rw [hnt];rfl) ?_|refine vC fun X Y hX hY=>?_|refine vK ?_|refine vE ?_|refine vT ?_|refine vF [] ?_|refine runS_c [] (l6In_ok _ _ _) rfl ?_ ?_ ?_|refine vL hk0 [] ?_|((first|apply gR|apply gC)<;>intro hq<;>(try simp only [nT,nF,n1,n0] at hq)<;>(have hb:=hq)<;>(try simp only [dT,dF,eT,eF] at hb)<;>first|(exfalso;omega)|((try simp only [hq]);clear hq)))<;>(try simp only [go_sem,qa,qb,qc,qd,qe,qf,qg,qh,qi,qj,qk,ql,qm,qn,qo,qp,qq,qr,qs,reduceIte,reduceCtorEq]))|refine ⟨j+1,?_,?_,?_⟩|refine Fits.of ?_ ?_|refine aE ?_ fun hp=>?_|refine aC ?_ fun hp=>?_|refine And.intro ?_ ?_|clear hK K)
 all_goals try (first|omega|(simp only [dA,dB,dC];omega))
 all_goals try (have h0:In (s.got.getD j 0) 0 2=false:=by simpa using hb
                have h9:=rall_false (p:=fun i=>In (s.got.getD i 0) 0 2) (i:=j) (n:=s.got.length) (by omega) h0
                simp only [State.ok,h9];simp;done)
 all_goals try exact rall_succ hrj (by simpa using hb)
 all_goals try (simp only [In_iff] at *;omega)
 all_goals (have hr3:rall s.got.length (fun i=>In (s.got.getD i 0) 0 2)=true:=by rw [show s.got.length=j from by omega];exact hrj)
 all_goals (have h8:(s.sent.length:Int)≤8:=by omega)
 all_goals simp only [State.ok,hr2,hr3]
 all_goals simp [-List.getD_eq_getElem?_getD, *]
 all_goals (intros;decide)
end Go.Hw
