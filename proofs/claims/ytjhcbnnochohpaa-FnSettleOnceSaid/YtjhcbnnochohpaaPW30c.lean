/- What is proved here: parts of the walk of the law and of its plain side; no condition but those that each theorem states. -/
import Derived.Test.YtjhcbnnochohpaaPS2
import Derived.Test.YtjhcbnnochohpaaPW28
set_option linter.all false
set_option maxRecDepth 100000
set_option maxHeartbeats 16000000
open Int renaming reduceToNat→qk,reduceAdd→ql,reduceSub→qm,reduceNeg→qn,reduceLT→qo,reduceLE→qp,reduceEq→qq,reduceBEq→qr,reduceBNe→qs
open Nat renaming reduceDiv→qa,reduceMod→qb,reduceAdd→qc,reduceMul→qd,reduceSub→qe,reduceLeDiff→qf,reduceBEq→qg,reduceEqDiff→qh,reduceBeqDiff→qi,reduceLT→qj
open Go.Hw renaming runG_split→gR,condG_split→gC,takG_split→gT,effG_split→gE
open Go.Hw.AWp renaming region→vR,seq→vS,cond'→vC,block→vB,skip→vK,ret→vT,exit→vE
open Go.Hw.Fin renaming auto→vF
open Go.Hw.SLe renaming auto→vL
namespace Go.Hw
open Go.Proofs
theorem ev_mid_2 (l:List Int) (p:Int) (a b:Chain) (hl:Bytes l) (h0:0≤p) (h9:p≤900000) (ok1:wOk [a,b]=true) (cx:Ctx) (hnt:cx.nt=234) (hk0:cx.k0=18) (h r:Int) (g1:0≤h) (g2:h≤90) (g3:p≤r) (g4:r≤p+4):AWp Try.prog cx (Code.pt evC [true,true,true,true,true,true,false]) (thenQ (fun s'=>∃ y:Int × Int,(0≤y.1∧y.1≤90∧p≤y.2∧y.2≤p+14)∧SLe cx s' (jE1 l ⟨a,b⟩ b a 10 2 2 y)) (finQ ti [ResultVar.cell 4 60] 18 (fun x:Event × Int=>p≤x.2∧x.2≤p+40) (fun x=>AV.o x.1.av) (fun x=>rdH l x.2 0++worldH ⟨a,b⟩ 1) 18)) (jE1 l ⟨a,b⟩ b a 10 2 2 (h,r)):=by
 obtain ⟨w1,w2,w3,w4⟩:=wOk_two ok1
 obtain ⟨q1,q2,q3,q4,q5,q6⟩:=chain_ok w3
 obtain ⟨u1,u2,u3,u4,u5,u6⟩:=chain_ok w1
 have q7:=knows_len q6
 have u7:=knows_len u6
 obtain ⟨r1,r2,r3,r4,r5,r6,r7,r8,r9⟩:=state_ok q3
 obtain ⟨t1,t2,t3,t4,t5,t6,t7,t8,t9⟩:=state_ok u3
 refine AWp.code_eq (y:=.seq _ _) rfl ?_
 simp only [go_sem,qa,qb,qc,qd,qe,qf,qg,qh,qi,qj,qk,ql,qm,qn,qo,qp,qq,qr,qs,reduceIte,reduceCtorEq]
 have v1:=knows_in q6


 have cW:=SumPlan_2 a b ok1
 have cP:=plan_len b a 2 w3 w1
 repeat' (first|(refine AWp.join (x:=.seq (.region 10 _ _) (.cond _ _ _)) (jE3 l ⟨a,b⟩ b a 10 2 2 58 h (r+1) x) (fun _=>True) ?_ ?_)|(refine AWp.join (x:=.seq (.region 13 _ _) (.cond _ _ _)) (jE3 l ⟨a,b⟩ b a 10 2 2 63 h (r+1) x) (fun _=>True) ?_ ?_)|(refine AWp.join (x:=.seq (.region 16 _ _) (.cond _ _ _)) (jE3 l ⟨a,b⟩ b a 10 2 2 76 h (r+1) x) (fun _=>True) ?_ ?_)|(refine AWp.join (x:=.seq (.region 22 _ _) (.cond _ _ _)) (jE3 l ⟨a,b⟩ b a 10 2 2 107 h (r+1) x) (fun _=>True) ?_ ?_)|refine fun bb (_:True)=>?_|refine vS fun K hK=>?_|refine hK _ ?_;clear hK K|refine hX ?_;clear hX hY X Y|refine hY ?_;clear hX hY X Y|refine vB ?_|((first|refine vR tok (by rw [hnt];rfl) ?_|refine vC fun X Y hX hY=>?_|refine vK ?_|refine vT ?_|refine runS_pick l hl rfl ?_ ?_ ?_ (fun x hx=>?_)|refine runS_v [] (cW) ?_ ?_ ?_ ?_ ?_|(refine AWp.draw (id:=15) tok mixed (.tak 0 (.tak 1 (.tak 2 (.tak 3 (.tak 4 (.all (.cons 5 (.tak 6 (.tak 7 (.all (.cons 8 (.all (.cons 9 (.all (.cons 10 .done .nil)) .nil)) .nil)))) .nil))))))) [20,21,8] [0,4,5,7] (by kernel_rfl) (by kernel_rfl) (by rw [hnt];rfl) ?_)|(refine AWp.draw (id:=18) tok mixed (.tak 0 (.tak 4 (.tak 7 (.tak 10 (.tak 13 (.tak 14 (.tak 15 (.tak 16 (.tak 17 (.all (.cons 1 (.tak 2 (.tak 3 (.all (.cons 5 (.tak 6 (.all (.cons 8 (.tak 9 (.all (.cons 11 (.tak 12 (.all (.cons 18 (.tak 19 (.all (.cons 20 (.all (.cons 21 (.all (.cons 22 .done .nil)) .nil)) (.cons 21 (.all (.cons 20 (.all (.cons 22 .done .nil)) .nil)) .nil)))) (.cons 21 (.all (.cons 18 (.tak 19 (.all (.cons 20 (.all (.cons 22 .done .nil)) .nil))) .nil)) .nil)))) (.cons 21 (.all (.cons 11 (.tak 12 (.all (.cons 18 (.tak 19 (.all (.cons 20 (.all (.cons 22 .done .nil)) .nil))) .nil))) .nil)) .nil)))) (.cons 21 (.all (.cons 8 (.tak 9 (.all (.cons 11 (.tak 12 (.all (.cons 18 (.tak 19 (.all (.cons 20 (.all (.cons 22 .done .nil)) .nil))) .nil))) .nil))) .nil)) .nil)))) (.cons 21 (.all (.cons 5 (.tak 6 (.all (.cons 8 (.tak 9 (.all (.cons 11 (.tak 12 (.all (.cons 18 (.tak 19 (.all (.cons 20 (.all (.cons 22 .done .nil)) .nil))) .nil))) .nil))) .nil))) .nil)) .nil))))) (.cons 21 (.all (.cons 1 (.tak 2 (.tak 3 (.all (.cons 5 (.tak 6 (.all (.cons 8 (.tak 9 (.all (.cons 11 (.tak 12 (.all (.cons 18 (.tak 19 (.all (.cons 20 (.all (.cons 22 .done .nil)) .nil))) .nil))) .nil))) .nil))) .nil)))) .nil)) .nil)))))))))))) [20,21,8] [0,7] (by kernel_rfl) (by kernel_rfl) (by rw [hnt];rfl) ?_)|(refine AWp.draw (id:=32) tok mixed (.tak 0 (.tak 1 (.tak 2 (.tak 3 (.tak 4 (.tak 5 (.tak 6 (.tak 7 (.all (.cons 8 (.tak 9 (.all (.cons 10 (.all (.cons 11 (.all (.cons 12 .done .nil)) .nil)) (.cons 11 (.all (.cons 10 (.all (.cons 12 .done .nil)) .nil)) .nil)))) (.cons 11 (.all (.cons 8 (.tak 9 (.all (.cons 10 (.all (.cons 12 .done .nil)) .nil))) .nil)) .nil))))))))))) [20,21,8] [0,7] (by kernel_rfl) (by kernel_rfl) (by rw [hnt];rfl) ?_)|refine effS_pick l hl rfl ?_ ?_ ?_ (fun x hx=>?_)|((first|apply gR|apply gC)<;>intro hq<;>(try simp only [nT,nF,n1,n0] at hq)<;>(have hb:=hq)<;>(try simp only [dT,dF,eT,eF] at hb)<;>first|(exfalso;omega)|((try simp only [hq]);clear hq)))<;>(try simp only [go_sem,qa,qb,qc,qd,qe,qf,qg,qh,qi,qj,qk,ql,qm,qn,qo,qp,qq,qr,qs,reduceIte,reduceCtorEq]))|refine Fits.of ?_ ?_|(refine aL ?_ (fun hp=>?_)<;>((try simp only [rowSet_fI hp,rowSet_fI2 hp]);(try simp only [rowSet_fB hp])))|refine aE ?_ fun hp=>?_|refine aC ?_ fun hp=>?_|refine And.intro ?_ ?_|clear hK K)
 all_goals try omega
 all_goals try (
   apply Exists.intro _
   refine vL hk0 [] ?_;simp only [go_sem,qa,qb,qc,qd,qe,qf,qg,qh,qi,qj,qk,ql,qm,qn,qo,qp,qq,qr,qs,reduceIte,reduceCtorEq,jE3]
   first|done|rfl|(repeat' (apply And.intro))<;>first|rfl|trivial)
 all_goals try (
   apply Exists.intro (_,_)
   apply And.intro
   rotate_left
   focus (refine vL hk0 [] ?_;simp only [go_sem,qa,qb,qc,qd,qe,qf,qg,qh,qi,qj,qk,ql,qm,qn,qo,qp,qq,qr,qs,reduceIte,reduceCtorEq,jE1];first|done|rfl|(repeat' (apply And.intro))<;>first|rfl|trivial)
   try dsimp only
   omega)
 all_goals try (
   (apply Exists.intro ((⟨_,_,_,_,⟨_,_,_,_,_,_,_⟩⟩,_));apply And.intro;rotate_left;focus (refine vF [] ?_;simp only [go_sem,qa,qb,qc,qd,qe,qf,qg,qh,qi,qj,qk,ql,qm,qn,qo,qp,qq,qr,qs,reduceIte,reduceCtorEq];first|rfl|refine ⟨?_,?_⟩<;>rfl|(repeat' (apply And.intro))<;>first|rfl|trivial);try dsimp only)
   try dsimp only
   omega)
end Go.Hw
