/- What is proved here: parts of the walk of the law and of its plain side; no condition but those that each theorem states. -/
import Derived.Test.YtjhcbnnochohpaaPS1
set_option linter.all false
set_option maxRecDepth 100000
set_option maxHeartbeats 16000000
open Int renaming reduceToNat→qk,reduceAdd→ql,reduceSub→qm,reduceNeg→qn,reduceLT→qo,reduceLE→qp,reduceEq→qq,reduceBEq→qr,reduceBNe→qs
open Nat renaming reduceDiv→qa,reduceMod→qb,reduceAdd→qc,reduceMul→qd,reduceSub→qe,reduceLeDiff→qf,reduceBEq→qg,reduceEqDiff→qh,reduceBeqDiff→qi,reduceLT→qj
open Go.Hw renaming runG_split→gR,condG_split→gC,takG_split→gT,effG_split→gE
open Go.Hw.AWp renaming region→vR,seq→vS,cond'→vC,block→vB,skip→vK,ret→vT,exit→vE
open Go.Hw.Fin renaming auto→vF
open Go.Hw.SLe renaming auto→vL
open Go.Hw.CallX renaming of→vO
namespace Go.Hw
open Go.Proofs
def pl_SumPlan_10:Plan:=(.tak 0 (.tak 2 (.tak 3 (.tak 4 (.tak 5 (.tak 6 (.tak 7 (.all (.cons 1 (.all (.cons 8 (.tak 9 (.tak 10 (.tak 11 (.all (.cons 12 (.all (.cons 13 (.tak 14 .done) .nil)) .nil))))) (.cons 12 (.all (.cons 8 (.tak 9 (.tak 10 (.tak 11 (.all (.cons 13 (.tak 14 .done) .nil))))) .nil)) .nil))) (.cons 12 (.all (.cons 1 (.all (.cons 8 (.tak 9 (.tak 10 (.tak 11 (.all (.cons 13 (.tak 14 .done) .nil))))) .nil)) .nil)) .nil))))))))))
attribute [go_sem] pl_SumPlan_10
def pl_SumPlan_11:Plan:=(.tak 0 (.tak 2 (.tak 3 (.all (.cons 1 (.all (.cons 4 (.tak 5 (.tak 6 (.tak 7 (.all (.cons 8 (.all (.cons 9 (.tak 10 .done) .nil)) .nil))))) (.cons 8 (.all (.cons 4 (.tak 5 (.tak 6 (.tak 7 (.all (.cons 9 (.tak 10 .done) .nil))))) .nil)) .nil))) (.cons 8 (.all (.cons 1 (.all (.cons 4 (.tak 5 (.tak 6 (.tak 7 (.all (.cons 9 (.tak 10 .done) .nil))))) .nil)) .nil)) .nil))))))
attribute [go_sem] pl_SumPlan_11
def pl_SumPlan_12:Plan:=(.tak 0 (.tak 2 (.tak 3 (.tak 4 (.all (.cons 1 (.all (.cons 5 (.tak 6 (.tak 7 (.tak 8 (.all (.cons 9 (.all (.cons 10 (.tak 11 .done) .nil)) .nil))))) (.cons 9 (.all (.cons 5 (.tak 6 (.tak 7 (.tak 8 (.all (.cons 10 (.tak 11 .done) .nil))))) .nil)) .nil))) (.cons 9 (.all (.cons 1 (.all (.cons 5 (.tak 6 (.tak 7 (.tak 8 (.all (.cons 10 (.tak 11 .done) .nil))))) .nil)) .nil)) .nil)))))))
attribute [go_sem] pl_SumPlan_12
theorem SumPlan_1 (a b:Chain) (ok1:wOk [a,b]=true):Call Try.prog 11 [.g [.t (chainsT [a,b])],I 1] [] 0 (.o (.c (.sl 0 11 0 (planC a b 1).length))) [(0,rE (planC a b 1))] 1:=by
 have ei:In 1 1 2=true:=by decide
 obtain ⟨w1,w2,w3,w4⟩:=wOk_two ok1
 have hs:∀ i,(([a,b]:List Chain).getD i default).small:=two_small w1 w3
 have cW:=WorldOk_ok [a,b] hs (by simp)
 obtain ⟨q1,q2,q3,q4,q5,q6⟩:=chain_ok w1
 obtain ⟨u1,u2,u3,u4,u5,u6⟩:=chain_ok w3
 have q7:=knows_len q6
 obtain ⟨r1,r2,r3,r4,r5,r6,r7,r8,r9⟩:=state_ok q3
 unfold planC
 by_cases h0:a.knows.length=0
 · rw [if_pos h0]
   have h0':(a.knows.length:Int)=0:=by omega
   refine vO tok Try.func11 rfl rfl Try.ntmps11 Try.results11 rfl (by decide) (fun cx hnt hk0=>?_)
   repeat' (first|refine vS fun K hK=>?_|refine hK _ ?_;clear hK K|refine hX ?_;clear hX hY X Y|((first|refine vR tok (by rw [hnt];rfl) ?_|refine vC fun X Y hX hY=>?_|refine vT ?_|refine vF [] ?_|refine runS_c [] (cW) rfl ?_ ?_ ?_|refine runS_c [] (l6In_ok _ _ _) rfl ?_ ?_ ?_|(apply gC<;>intro hq<;>(try simp only [nT,nF,n1,n0] at hq)<;>(have hb:=hq)<;>(try simp only [dT,dF,eT,eF] at hb)<;>first|(exfalso;omega)|((try simp only [hq]);clear hq)))<;>(try simp only [go_sem,qa,qb,qc,qd,qe,qf,qg,qh,qi,qj,qk,ql,qm,qn,qo,qp,qq,qr,qs,reduceIte,reduceCtorEq,ok1,ei]))|refine Fits.of ?_ ?_|(refine aL ?_ (fun hp=>?_)<;>((try simp only [rowSet_fI hp,rowSet_fI2 hp]);(try simp only [rowSet_fB hp])))|refine And.intro ?_ ?_|clear hK K)
   all_goals first|omega|skip
 · rw [if_neg h0]
   have e1:=lastK_in q6 h0
   have e2:lastK a≤b.past.length:=w2 (by omega)
   have e3:(b.past.getD (lastK a - 1).toNat default).ok=true:=u5 _ (by omega)
   generalize eh:lastK a=h at e1 e2 e3 ⊢
   generalize es:b.past.getD (h - 1).toNat default=s at e3 ⊢
   have eh':a.knows.getD ((a.knows.length:Int) - 1).toNat 0=h:=eh
   obtain ⟨t1,t2,t3,t4,t5,t6,t7,t8,t9⟩:=state_ok e3
   refine vO tok Try.func11 rfl rfl Try.ntmps11 Try.results11 rfl (by decide) (fun cx hnt hk0=>?_)
   repeat' (first|refine vS fun K hK=>?_|refine hK _ ?_;clear hK K|refine hY ?_;clear hX hY X Y|refine vB ?_|((first|refine vR tok (by rw [hnt];rfl) ?_|refine vC fun X Y hX hY=>?_|refine vK ?_|refine runS_c [] (cW) rfl ?_ ?_ ?_|refine runS_c [] (l6In_ok _ _ _) rfl ?_ ?_ ?_|(apply gC<;>intro hq<;>(try simp only [nT,nF,n1,n0] at hq)<;>(have hb:=hq)<;>(try simp only [dT,dF,eT,eF] at hb)<;>first|(exfalso;omega)|((try simp only [hq]);clear hq)))<;>(try simp only [go_sem,qa,qb,qc,qd,qe,qf,qg,qh,qi,qj,qk,ql,qm,qn,qo,qp,qq,qr,qs,reduceIte,reduceCtorEq,ok1,ei,eh',es]))|refine Fits.of ?_ ?_|(refine aL ?_ (fun hp=>?_)<;>((try simp only [rowSet_fI hp,rowSet_fI2 hp]);(try simp only [rowSet_fB hp])))|refine aE ?_ fun hp=>?_|refine aC ?_ fun hp=>?_|refine And.intro ?_ ?_|clear hK K)
   all_goals try omega
   refine AWp.loop (fun i:Nat=>⟨[(1,.o (I 1)),(2,.o (.c (.ptr 0 0 0 0))),(5,.o (.c (.sl 1 11 0 (getsOf a s 1 h i).length))),(6,.o (.c (.ptr 2 0 0 0))),(7,.o (I h)),(8,.o (.c (.ptr 3 0 0 0))),(9,.o (I i))],
     [(1,rE (getsOf a s 1 h i)),(0,.box [.t (chainsT [a,b])]),(2,a.box),(3,s.box)],4⟩) (fun i=>i≤s.sent.length) (fun i=>s.sent.length - i) 0 (Nat.zero_le _) ?_ ?_
   · refine vL hk0 [] ?_;simp only [go_sem,qa,qb,qc,qd,qe,qf,qg,qh,qi,qj,qk,ql,qm,qn,qo,qp,qq,qr,qs,reduceIte,reduceCtorEq,getsOf,List.take_zero,List.filter_nil,List.map_nil]
     all_goals simp
   intro i hi
   have hl:=gets_len a s 1 h i
   have ep:i < s.sent.length→(s.sent.getD i default).ok=true:=fun h=>(sentOk_iff (t7 i h)).1
   by_cases hlt:i < s.sent.length
   · have ep:=ep hlt
     cases eg:a.getB s (s.sent.getD i default)
     · have e9:getsOf a s 1 h (i+1)=getsOf a s 1 h i:=by rw [gets_succ _ _ _ _ _ hlt,if_neg (by simp [-List.getD_eq_getElem?_getD,eg])];simp

       repeat' (first|refine vS fun K hK=>?_|refine hK _ ?_;clear hK K|refine hX ?_;clear hX hY X Y|refine hY ?_;clear hX hY X Y|refine vB ?_|((first|refine vR tok (by rw [hnt];rfl) ?_|refine vC fun X Y hX hY=>?_|refine vK ?_|(refine AWp.draw (id:=10) tok mixed pl_SumPlan_10 [2,3] [6,8,9] (by kernel_rfl) (by kernel_rfl) (by rw [hnt];rfl) ?_)|refine effS_c [] (l12Copy_ok a w1) rfl ?_ ?_ ?_|(refine effS_c [_,_,_,_,_,_,_,_] (l13Get_ok a s (s.sent.getD i default) w1 e3 ep) rfl ?_ ?_ ?_)|refine vL hk0 [] ?_|(apply gC<;>intro hq<;>(try simp only [nT,nF,n1,n0] at hq)<;>(have hb:=hq)<;>(try simp only [dT,dF,eT,eF] at hb)<;>first|(exfalso;omega)|((try simp only [hq]);clear hq)))<;>(try simp only [go_sem,qa,qb,qc,qd,qe,qf,qg,qh,qi,qj,qk,ql,qm,qn,qo,qp,qq,qr,qs,reduceIte,reduceCtorEq,eg,e9]))|refine ⟨i+1,?_,?_,?_⟩|refine Fits.of ?_ ?_|refine aE ?_ fun hp=>?_|refine aC ?_ fun hp=>?_|refine And.intro ?_ ?_|clear hK K)
       all_goals first|(first|omega|(simp only [dA,dB,dC];omega))|(rw [e9])|skip
     · have e9:getsOf a s 1 h (i+1)=getsOf a s 1 h i++[⟨4,1,h,0,s.sent.getD i default⟩]:=by rw [gets_succ _ _ _ _ _ hlt,if_pos eg]

       repeat' (first|refine vS fun K hK=>?_|refine hK _ ?_;clear hK K|refine hX ?_;clear hX hY X Y|refine vB ?_|((first|refine vR tok (by rw [hnt];rfl) ?_|refine vC fun X Y hX hY=>?_|refine vK ?_|(refine AWp.draw (id:=10) tok mixed pl_SumPlan_10 [2,3] [6,8,9] (by kernel_rfl) (by kernel_rfl) (by rw [hnt];rfl) ?_)|refine effS_c [] (l12Copy_ok a w1) rfl ?_ ?_ ?_|(refine effS_c [_,_,_,_,_,_,_,_] (l13Get_ok a s (s.sent.getD i default) w1 e3 ep) rfl ?_ ?_ ?_)|refine vL hk0 [] ?_|(apply gC<;>intro hq<;>(try simp only [nT,nF,n1,n0] at hq)<;>(have hb:=hq)<;>(try simp only [dT,dF,eT,eF] at hb)<;>first|(exfalso;omega)|((try simp only [hq]);clear hq)))<;>(try simp only [go_sem,qa,qb,qc,qd,qe,qf,qg,qh,qi,qj,qk,ql,qm,qn,qo,qp,qq,qr,qs,reduceIte,reduceCtorEq,eg,e9]))|refine ⟨i+1,?_,?_,?_⟩|refine Fits.of ?_ ?_|refine aE ?_ fun hp=>?_|refine aC ?_ fun hp=>?_|refine And.intro ?_ ?_|clear hK K)
       all_goals first|(first|omega|(simp only [dA,dB,dC];omega))|skip
   · have ei2:i=s.sent.length:=by omega
     subst ei2
     repeat' (first|refine vS fun K hK=>?_|refine hK _ ?_;clear hK K|refine hY ?_;clear hX hY X Y|refine vB ?_|((first|refine vR tok (by rw [hnt];rfl) ?_|refine vC fun X Y hX hY=>?_|refine vE ?_|(apply gC<;>intro hq<;>(try simp only [nT,nF,n1,n0] at hq)<;>(have hb:=hq)<;>(try simp only [dT,dF,eT,eF] at hb)<;>first|(exfalso;omega)|((try simp only [hq]);clear hq)))<;>(try simp only [go_sem,qa,qb,qc,qd,qe,qf,qg,qh,qi,qj,qk,ql,qm,qn,qo,qp,qq,qr,qs,reduceIte,reduceCtorEq]))|clear hK K)
     all_goals try (exfalso;omega)
     refine AWp.loop (fun i:Nat=>⟨[(1,.o (I 1)),(2,.o (.c (.ptr 0 0 0 0))),(5,.o (.c (.sl 1 11 0 (getsOf a s 1 h s.sent.length++restOf a s 1 h i).length))),(6,.o (.c (.ptr 2 0 0 0))),(7,.o (I h)),(8,.o (.c (.ptr 3 0 0 0))),(12,.o (I ((i:Int)+1)))],
       [(1,rE (getsOf a s 1 h s.sent.length++restOf a s 1 h i)),(0,.box [.t (chainsT [a,b])]),(2,a.box),(3,s.box)],4⟩) (fun i=>i≤a.state.sent.length) (fun i=>a.state.sent.length - i) 0 (Nat.zero_le _) ?_ ?_
     · refine vL hk0 [] ?_;simp only [go_sem,qa,qb,qc,qd,qe,qf,qg,qh,qi,qj,qk,ql,qm,qn,qo,qp,qq,qr,qs,reduceIte,reduceCtorEq,restOf,List.range_zero,List.flatMap_nil,List.append_nil]
       all_goals simp
     intro i hi
     have hl2:=rest_len a s 1 h i
     by_cases hlt:i < a.state.sent.length
     · cases et:a.tellB s ((i:Int)+1)<;>cases el:a.lateB s h ((i:Int)+1)
       · have e9:=rest_succ a s 1 h i
         simp only [restAt,et,el,if_true,Bool.false_eq_true,if_false,List.append_nil,List.nil_append] at e9

         repeat' (first|refine vS fun K hK=>?_|refine hK _ ?_;clear hK K|refine hX ?_;clear hX hY X Y|refine hY ?_;clear hX hY X Y|refine vB ?_|((first|refine vR tok (by rw [hnt];rfl) ?_|refine vC fun X Y hX hY=>?_|refine vK ?_|(refine AWp.draw (id:=16) tok mixed pl_SumPlan_11 [2,3] [6,8,12] (by kernel_rfl) (by kernel_rfl) (by rw [hnt];rfl) ?_)|(refine AWp.draw (id:=17) tok mixed pl_SumPlan_12 [2,3] [6,7,8,12] (by kernel_rfl) (by kernel_rfl) (by rw [hnt];rfl) ?_)|refine effS_c [] (l12Copy_ok a w1) rfl ?_ ?_ ?_|(refine effS_c [_,_,_,_,_,_,_,_] (l13Tell_ok a s ((i:Int)+1) w1 e3) rfl ?_ ?_ ?_)|(refine effS_c [_,_,_,_,_,_,_,_] (l13Late_ok a s h ((i:Int)+1) w1 e3) rfl ?_ ?_ ?_)|refine vL hk0 [] ?_|(apply gC<;>intro hq<;>(try simp only [nT,nF,n1,n0] at hq)<;>(have hb:=hq)<;>(try simp only [dT,dF,eT,eF] at hb)<;>first|(exfalso;omega)|((try simp only [hq]);clear hq)))<;>(try simp only [go_sem,qa,qb,qc,qd,qe,qf,qg,qh,qi,qj,qk,ql,qm,qn,qo,qp,qq,qr,qs,reduceIte,reduceCtorEq,et,el,e9]))|refine ⟨i+1,?_,?_,?_⟩|refine Fits.of ?_ ?_|refine And.intro ?_ ?_|clear hK K)
         all_goals first|(first|omega|(simp only [dA,dB,dC];omega))|(simp [rle_fE];done)|skip
       · have e9:=rest_succ a s 1 h i
         simp only [restAt,et,el,if_true,Bool.false_eq_true,if_false,List.append_nil,List.nil_append] at e9

         repeat' (first|refine vS fun K hK=>?_|refine hK _ ?_;clear hK K|refine hX ?_;clear hX hY X Y|refine hY ?_;clear hX hY X Y|refine vB ?_|((first|refine vR tok (by rw [hnt];rfl) ?_|refine vC fun X Y hX hY=>?_|refine vK ?_|(refine AWp.draw (id:=16) tok mixed pl_SumPlan_11 [2,3] [6,8,12] (by kernel_rfl) (by kernel_rfl) (by rw [hnt];rfl) ?_)|(refine AWp.draw (id:=17) tok mixed pl_SumPlan_12 [2,3] [6,7,8,12] (by kernel_rfl) (by kernel_rfl) (by rw [hnt];rfl) ?_)|refine effS_c [] (l12Copy_ok a w1) rfl ?_ ?_ ?_|(refine effS_c [_,_,_,_,_,_,_,_] (l13Tell_ok a s ((i:Int)+1) w1 e3) rfl ?_ ?_ ?_)|(refine effS_c [_,_,_,_,_,_,_,_] (l13Late_ok a s h ((i:Int)+1) w1 e3) rfl ?_ ?_ ?_)|refine vL hk0 [] ?_|(apply gC<;>intro hq<;>(try simp only [nT,nF,n1,n0] at hq)<;>(have hb:=hq)<;>(try simp only [dT,dF,eT,eF] at hb)<;>first|(exfalso;omega)|((try simp only [hq]);clear hq)))<;>(try simp only [go_sem,qa,qb,qc,qd,qe,qf,qg,qh,qi,qj,qk,ql,qm,qn,qo,qp,qq,qr,qs,reduceIte,reduceCtorEq,et,el,e9]))|refine ⟨i+1,?_,?_,?_⟩|refine Fits.of ?_ ?_|refine aE ?_ fun hp=>?_|refine And.intro ?_ ?_|clear hK K)
         all_goals first|(first|omega|(simp only [dA,dB,dC];omega))|(simp [rle_fE];done)|skip
       · have e9:=rest_succ a s 1 h i
         simp only [restAt,et,el,if_true,Bool.false_eq_true,if_false,List.append_nil,List.nil_append] at e9

         repeat' (first|refine vS fun K hK=>?_|refine hK _ ?_;clear hK K|refine hX ?_;clear hX hY X Y|refine hY ?_;clear hX hY X Y|refine vB ?_|((first|refine vR tok (by rw [hnt];rfl) ?_|refine vC fun X Y hX hY=>?_|refine vK ?_|(refine AWp.draw (id:=16) tok mixed pl_SumPlan_11 [2,3] [6,8,12] (by kernel_rfl) (by kernel_rfl) (by rw [hnt];rfl) ?_)|(refine AWp.draw (id:=17) tok mixed pl_SumPlan_12 [2,3] [6,7,8,12] (by kernel_rfl) (by kernel_rfl) (by rw [hnt];rfl) ?_)|refine effS_c [] (l12Copy_ok a w1) rfl ?_ ?_ ?_|(refine effS_c [_,_,_,_,_,_,_,_] (l13Tell_ok a s ((i:Int)+1) w1 e3) rfl ?_ ?_ ?_)|(refine effS_c [_,_,_,_,_,_,_,_] (l13Late_ok a s h ((i:Int)+1) w1 e3) rfl ?_ ?_ ?_)|refine vL hk0 [] ?_|(apply gC<;>intro hq<;>(try simp only [nT,nF,n1,n0] at hq)<;>(have hb:=hq)<;>(try simp only [dT,dF,eT,eF] at hb)<;>first|(exfalso;omega)|((try simp only [hq]);clear hq)))<;>(try simp only [go_sem,qa,qb,qc,qd,qe,qf,qg,qh,qi,qj,qk,ql,qm,qn,qo,qp,qq,qr,qs,reduceIte,reduceCtorEq,et,el,e9]))|refine ⟨i+1,?_,?_,?_⟩|refine Fits.of ?_ ?_|refine aE ?_ fun hp=>?_|refine And.intro ?_ ?_|clear hK K)
         all_goals first|(first|omega|(simp only [dA,dB,dC];omega))|(simp [rle_fE];done)|skip
       · have e9:=rest_succ a s 1 h i
         simp only [restAt,et,el,if_true,Bool.false_eq_true,if_false,List.append_nil,List.nil_append] at e9

         repeat' (first|refine vS fun K hK=>?_|refine hK _ ?_;clear hK K|refine hX ?_;clear hX hY X Y|refine vB ?_|((first|refine vR tok (by rw [hnt];rfl) ?_|refine vC fun X Y hX hY=>?_|refine vK ?_|(refine AWp.draw (id:=16) tok mixed pl_SumPlan_11 [2,3] [6,8,12] (by kernel_rfl) (by kernel_rfl) (by rw [hnt];rfl) ?_)|(refine AWp.draw (id:=17) tok mixed pl_SumPlan_12 [2,3] [6,7,8,12] (by kernel_rfl) (by kernel_rfl) (by rw [hnt];rfl) ?_)|refine effS_c [] (l12Copy_ok a w1) rfl ?_ ?_ ?_|(refine effS_c [_,_,_,_,_,_,_,_] (l13Tell_ok a s ((i:Int)+1) w1 e3) rfl ?_ ?_ ?_)|(refine effS_c [_,_,_,_,_,_,_,_] (l13Late_ok a s h ((i:Int)+1) w1 e3) rfl ?_ ?_ ?_)|refine vL hk0 [] ?_|(apply gC<;>intro hq<;>(try simp only [nT,nF,n1,n0] at hq)<;>(have hb:=hq)<;>(try simp only [dT,dF,eT,eF] at hb)<;>first|(exfalso;omega)|((try simp only [hq]);clear hq)))<;>(try simp only [go_sem,qa,qb,qc,qd,qe,qf,qg,qh,qi,qj,qk,ql,qm,qn,qo,qp,qq,qr,qs,reduceIte,reduceCtorEq,et,el,e9]))|refine ⟨i+1,?_,?_,?_⟩|refine Fits.of ?_ ?_|refine aE ?_ fun hp=>?_|refine And.intro ?_ ?_|clear hK K)
         all_goals first|(first|omega|(simp only [dA,dB,dC];omega))|(simp [rle_fE];done)|skip
     · have ei3:i=a.state.sent.length:=by omega
       subst ei3
       repeat' (first|refine vS fun K hK=>?_|refine hK _ ?_;clear hK K|refine hY ?_;clear hX hY X Y|((first|refine vR tok (by rw [hnt];rfl) ?_|refine vC fun X Y hX hY=>?_|refine vE ?_|refine vT ?_|refine vF [] ?_|(apply gC<;>intro hq<;>(try simp only [nT,nF,n1,n0] at hq)<;>(have hb:=hq)<;>(try simp only [dT,dF,eT,eF] at hb)<;>first|(exfalso;omega)|((try simp only [hq]);clear hq)))<;>(try simp only [go_sem,qa,qb,qc,qd,qe,qf,qg,qh,qi,qj,qk,ql,qm,qn,qo,qp,qq,qr,qs,reduceIte,reduceCtorEq,planOf]))|clear hK K)
       all_goals first|(exfalso;omega)|skip
end Go.Hw
