/- What is proved here: parts of the walk of the law and of its plain side; no condition but those that each theorem states. -/
import Derived.Test.YtjhcbnnochohpaaPE1
import Derived.Test.YtjhcbnnochohpaaPS1
set_option linter.all false
set_option maxRecDepth 100000
set_option maxHeartbeats 16000000
open Int renaming reduceToNat→qk,reduceAdd→ql,reduceSub→qm,reduceNeg→qn,reduceLT→qo,reduceLE→qp,reduceEq→qq,reduceBEq→qr,reduceBNe→qs
open Nat renaming reduceDiv→qa,reduceMod→qb,reduceAdd→qc,reduceMul→qd,reduceSub→qe,reduceLeDiff→qf,reduceBEq→qg,reduceEqDiff→qh,reduceBeqDiff→qi,reduceLT→qj
open Go.Hw renaming runG_split→gR,condG_split→gC,takG_split→gT,effG_split→gE
open Go.Hw.AWp renaming region→vR,seq→vS,cond'→vC,block→vB,skip→vK,ret→vT,exit→vE
open Go.Hw.Fin renaming auto→vF
open Go.Hw.SLe renaming auto→vL
namespace Go.Hw
open Go.Proofs
theorem knows_in {k:List Int} (h:∀ i,i < k.length→knowOk k i=true) (i:Nat):i < k.length→1≤k.getD i 0∧k.getD i 0≤90:=fun hi=>by
 have:=h i hi
 simp only [knowOk,Bool.and_eq_true,In_iff] at this
 exact this.1
theorem plan_len (c o:Chain) (k:Int) (h1:c.ok=true) (h2:o.ok=true):(planC c o k).length≤1000:=by
 obtain ⟨q1,q2,q3,q4,q5,q6⟩:=chain_ok h1
 obtain ⟨u1,u2,u3,u4,u5,u6⟩:=chain_ok h2
 obtain ⟨r1,r2,r3,r4,r5,r6,r7,r8,r9⟩:=state_ok q3
 unfold planC
 split
 · simp
 unfold planOf
 rw [List.length_append]
 have a1:=gets_len c (o.past.getD (lastK c - 1).toNat default) k (lastK c) (o.past.getD (lastK c - 1).toNat default).sent.length
 have a2:=rest_len c (o.past.getD (lastK c - 1).toNat default) k (lastK c) c.state.sent.length
 have a3:(o.past.getD (lastK c - 1).toNat default).sent.length≤200:=by
   by_cases hi:(lastK c - 1).toNat < o.past.length
   · have:=u5 _ hi
     obtain ⟨r1,r2,r3,r4,r5,r6,r7,r8,r9⟩:=state_ok this
     omega
   · have:o.past.getD (lastK c - 1).toNat default=default:=by unfold List.getD;rw [List.getElem?_eq_none (Nat.le_of_not_lt hi)];rfl
     rw [this];decide
 omega
def jE1 (l:List Int) (w:Two) (c o:Chain) (hc ho:Nat) (ch:Int) (x:Int × Int):St:=⟨[(0,.o (.c (.ptr 0 0 0 0))),(3,.o (.c (.ptr 18 0 0 0))),(4,.o (.c (.ptr 19 0 0 0))),(5,.o (I ch)),(6,.o (.c (.ptr 20 0 0 0))),(7,.o (.c (.ptr 21 0 0 0))),(8,.o (I x.1))],rdH l x.2 0++(worldH w 1++[(18,.box (worldA 1)),(19,(⟨0,0,0,0,⟨0,0,0,0,0,0,0⟩⟩:Event).box),(20,.box (chainA c hc)),(21,.box (chainA o ho))]),22⟩
def jE3 (l:List Int) (w:Two) (c o:Chain) (hc ho:Nat) (ch:Int) (t:Nat) (h r x:Int) (bb:Bool):St:=⟨[(0,.o (.c (.ptr 0 0 0 0))),(3,.o (.c (.ptr 18 0 0 0))),(4,.o (.c (.ptr 19 0 0 0))),(5,.o (I ch)),(6,.o (.c (.ptr 20 0 0 0))),(7,.o (.c (.ptr 21 0 0 0))),(8,.o (I h)),(57,.o (I x)),(t,.o (BB bb))],rdH l r 0++(worldH w 1++[(18,.box (worldA 1)),(19,(⟨0,0,0,0,⟨0,0,0,0,0,0,0⟩⟩:Event).box),(20,.box (chainA c hc)),(21,.box (chainA o ho))]),22⟩
def jE2 (l:List Int) (w:Two) (c o:Chain) (hc ho:Nat) (ch:Int) (x:Int × Int × Int):St:=⟨[(0,.o (.c (.ptr 0 0 0 0))),(4,.o (.c (.ptr 18 0 0 0))),(5,.o (I ch)),(6,.o (.c (.ptr 19 0 0 0))),(7,.o (.c (.ptr 20 0 0 0))),(8,.o (I x.1)),(12,.o (I x.2.2))],rdH l x.2.1 0++(worldH w 1++[(18,(⟨0,0,0,0,⟨0,0,0,0,0,0,0⟩⟩:Event).box),(19,.box (chainA c hc)),(20,.box (chainA o ho))]),21⟩
attribute [go_sem] jE1 jE2 jE3
def Code.pt:Code→List Bool→Code
 | .seq x _,false ::l=>Code.pt x l
 | .seq _ y,true ::l=>Code.pt y l
 | c,_=>c
noncomputable def evC:Code:=match Try.f111.body with
 | some c=>c
 | none=>.skip
theorem AWp.code_eq {P:Program} {c:Ctx} {x y:Code} {Q:Exit→St→Prop} {s:St} (h:x=y) (hy:AWp P c y Q s):AWp P c x Q s:=by rw [h];exact hy
theorem ev_rest_1 (l:List Int) (p:Int) (a b:Chain) (hl:Bytes l) (h0:0≤p) (h9:p≤900000) (ok1:wOk [a,b]=true) (cx:Ctx) (hnt:cx.nt=234) (hk0:cx.k0=18) (h r:Int) (g1:0≤h) (g2:h≤90) (g3:p≤r) (g4:r≤p+14):AWp Try.prog cx (Code.pt evC [true,true,true,true,true,true,true]) (finQ ti [ResultVar.cell 4 60] 18 (fun x:Event × Int=>p≤x.2∧x.2≤p+40) (fun x=>AV.o x.1.av) (fun x=>rdH l x.2 0++worldH ⟨a,b⟩ 1) 18) (jE1 l ⟨a,b⟩ a b 2 10 1 (h,r)):=by
 obtain ⟨w1,w2,w3,w4⟩:=wOk_two ok1
 obtain ⟨q1,q2,q3,q4,q5,q6⟩:=chain_ok w3
 obtain ⟨u1,u2,u3,u4,u5,u6⟩:=chain_ok w1
 have q7:=knows_len q6
 have u7:=knows_len u6
 obtain ⟨r1,r2,r3,r4,r5,r6,r7,r8,r9⟩:=state_ok q3
 obtain ⟨t1,t2,t3,t4,t5,t6,t7,t8,t9⟩:=state_ok u3
 refine AWp.code_eq (y:=.seq _ _) rfl ?_
 simp only [go_sem,qa,qb,qc,qd,qe,qf,qg,qh,qi,qj,qk,ql,qm,qn,qo,qp,qq,qr,qs,reduceIte,reduceCtorEq]
 have v1:=knows_in u6


 have ks:=ok_small w1
 have ko:=ok_small w3
 have cN:=WayNext_ok a.state (b.past.getD (h - 1).toNat default) ks.2.2.2.1.1 ks.2.2.2.1.2 (ko.2.2.2.2.2.1 _).1 (ko.2.2.2.2.2.1 _).2
 have cL:=next_len a.state (b.past.getD (h - 1).toNat default) 7
 repeat' (first|(refine AWp.join (x:=.seq (.region 38 _ _) (.cond _ _ _)) (jE2 l ⟨a,b⟩ a b 2 10 1) (fun x=>0≤x.1∧x.1≤90∧p≤x.2.1∧x.2.1≤p+18) ?_ ?_)|refine vS fun K hK=>?_|refine hK _ ?_;clear hK K|refine hX ?_;clear hX hY X Y|refine hY ?_;clear hX hY X Y|((first|refine vR tok (by rw [hnt];rfl) ?_|refine vC fun X Y hX hY=>?_|refine vK ?_|refine runS_pick l hl rfl ?_ ?_ ?_ (fun x hx=>?_)|(refine AWp.draw (id:=39) tok mixed (.tak 0 (.tak 1 (.tak 2 (.tak 3 (.tak 4 (.tak 5 (.tak 6 (.tak 7 (.all (.cons 8 (.tak 9 .done) .nil)))))))))) [20,21,16] [6,7,8] (by kernel_rfl) (by kernel_rfl) (by rw [hnt];rfl) ?_)|refine effS_v [] (cN) ?_ ?_ ?_ ?_ ?_|((first|apply gR|apply gC)<;>intro hq<;>(try simp only [nT,nF,n1,n0] at hq)<;>(have hb:=hq)<;>(try simp only [dT,dF,eT,eF] at hb)<;>first|(exfalso;omega)|((try simp only [hq]);clear hq)))<;>(try simp only [go_sem,qa,qb,qc,qd,qe,qf,qg,qh,qi,qj,qk,ql,qm,qn,qo,qp,qq,qr,qs,reduceIte,reduceCtorEq]))|refine Fits.of ?_ ?_|(refine aL ?_ (fun hp=>?_)<;>((try simp only [rowSet_fI hp,rowSet_fI2 hp]);(try simp only [rowSet_fB hp])))|refine aE ?_ fun hp=>?_|refine aC ?_ fun hp=>?_|refine And.intro ?_ ?_|clear hK K)
 all_goals try omega
 all_goals try (
   apply Exists.intro (_,_,_)
   apply And.intro
   rotate_left
   focus (refine vL hk0 [] ?_;simp only [go_sem,qa,qb,qc,qd,qe,qf,qg,qh,qi,qj,qk,ql,qm,qn,qo,qp,qq,qr,qs,reduceIte,reduceCtorEq,jE2];first|done|rfl|(repeat' (apply And.intro))<;>first|rfl|trivial)
   try dsimp only
   omega)
 clear g1 g2 g3 g4
 rintro ⟨h,r,st⟩ ⟨g1,g2,g3,g4⟩
 simp only [] at g1 g2 g3 g4
 simp only [go_sem,qa,qb,qc,qd,qe,qf,qg,qh,qi,qj,qk,ql,qm,qn,qo,qp,qq,qr,qs,reduceIte,reduceCtorEq]
 repeat' (first|refine vS fun K hK=>?_|refine hK _ ?_;clear hK K|refine hX ?_;clear hX hY X Y|refine hY ?_;clear hX hY X Y|((first|refine vR tok (by rw [hnt];rfl) ?_|refine vC fun X Y hX hY=>?_|refine vK ?_|refine vT ?_|refine runS_pick l hl rfl ?_ ?_ ?_ (fun x hx=>?_)|((first|apply gR|apply gC)<;>intro hq<;>(try simp only [nT,nF,n1,n0] at hq)<;>(have hb:=hq)<;>(try simp only [dT,dF,eT,eF] at hb)<;>first|(exfalso;omega)|((try simp only [hq]);clear hq)))<;>(try simp only [go_sem,qa,qb,qc,qd,qe,qf,qg,qh,qi,qj,qk,ql,qm,qn,qo,qp,qq,qr,qs,reduceIte,reduceCtorEq]))|refine aE ?_ fun hp=>?_|clear hK K)
 all_goals try omega
 all_goals try (
   (apply Exists.intro ((⟨_,_,_,_,⟨_,_,_,_,_,_,_⟩⟩,_));apply And.intro;rotate_left;focus (refine vF [] ?_;simp only [go_sem,qa,qb,qc,qd,qe,qf,qg,qh,qi,qj,qk,ql,qm,qn,qo,qp,qq,qr,qs,reduceIte,reduceCtorEq];first|rfl|refine ⟨?_,?_⟩<;>rfl|(repeat' (apply And.intro))<;>first|rfl|trivial);try dsimp only)
   try dsimp only
   omega)
theorem ev_rest_2 (l:List Int) (p:Int) (a b:Chain) (hl:Bytes l) (h0:0≤p) (h9:p≤900000) (ok1:wOk [a,b]=true) (cx:Ctx) (hnt:cx.nt=234) (hk0:cx.k0=18) (h r:Int) (g1:0≤h) (g2:h≤90) (g3:p≤r) (g4:r≤p+14):AWp Try.prog cx (Code.pt evC [true,true,true,true,true,true,true]) (finQ ti [ResultVar.cell 4 60] 18 (fun x:Event × Int=>p≤x.2∧x.2≤p+40) (fun x=>AV.o x.1.av) (fun x=>rdH l x.2 0++worldH ⟨a,b⟩ 1) 18) (jE1 l ⟨a,b⟩ b a 10 2 2 (h,r)):=by
 obtain ⟨w1,w2,w3,w4⟩:=wOk_two ok1
 obtain ⟨q1,q2,q3,q4,q5,q6⟩:=chain_ok w3
 obtain ⟨u1,u2,u3,u4,u5,u6⟩:=chain_ok w1
 have q7:=knows_len q6
 have u7:=knows_len u6
 obtain ⟨r1,r2,r3,r4,r5,r6,r7,r8,r9⟩:=state_ok q3
 obtain ⟨t1,t2,t3,t4,t5,t6,t7,t8,t9⟩:=state_ok u3
 refine AWp.code_eq (y:=.seq _ _) rfl ?_
 simp only [go_sem,qa,qb,qc,qd,qe,qf,qg,qh,qi,qj,qk,ql,qm,qn,qo,qp,qq,qr,qs,reduceIte,reduceCtorEq]
 have v1:=knows_in q6


 have ks:=ok_small w3
 have ko:=ok_small w1
 have cN:=WayNext_ok b.state (a.past.getD (h - 1).toNat default) ks.2.2.2.1.1 ks.2.2.2.1.2 (ko.2.2.2.2.2.1 _).1 (ko.2.2.2.2.2.1 _).2
 have cL:=next_len b.state (a.past.getD (h - 1).toNat default) 7
 repeat' (first|(refine AWp.join (x:=.seq (.region 38 _ _) (.cond _ _ _)) (jE2 l ⟨a,b⟩ b a 10 2 2) (fun x=>0≤x.1∧x.1≤90∧p≤x.2.1∧x.2.1≤p+18) ?_ ?_)|refine vS fun K hK=>?_|refine hK _ ?_;clear hK K|refine hX ?_;clear hX hY X Y|refine hY ?_;clear hX hY X Y|((first|refine vR tok (by rw [hnt];rfl) ?_|refine vC fun X Y hX hY=>?_|refine vK ?_|refine runS_pick l hl rfl ?_ ?_ ?_ (fun x hx=>?_)|(refine AWp.draw (id:=39) tok mixed (.tak 0 (.tak 1 (.tak 2 (.tak 3 (.tak 4 (.tak 5 (.tak 6 (.tak 7 (.all (.cons 8 (.tak 9 .done) .nil)))))))))) [20,21,8] [6,7,8] (by kernel_rfl) (by kernel_rfl) (by rw [hnt];rfl) ?_)|refine effS_v [] (cN) ?_ ?_ ?_ ?_ ?_|((first|apply gR|apply gC)<;>intro hq<;>(try simp only [nT,nF,n1,n0] at hq)<;>(have hb:=hq)<;>(try simp only [dT,dF,eT,eF] at hb)<;>first|(exfalso;omega)|((try simp only [hq]);clear hq)))<;>(try simp only [go_sem,qa,qb,qc,qd,qe,qf,qg,qh,qi,qj,qk,ql,qm,qn,qo,qp,qq,qr,qs,reduceIte,reduceCtorEq]))|refine Fits.of ?_ ?_|(refine aL ?_ (fun hp=>?_)<;>((try simp only [rowSet_fI hp,rowSet_fI2 hp]);(try simp only [rowSet_fB hp])))|refine aE ?_ fun hp=>?_|refine aC ?_ fun hp=>?_|refine And.intro ?_ ?_|clear hK K)
 all_goals try omega
 all_goals try (
   apply Exists.intro (_,_,_)
   apply And.intro
   rotate_left
   focus (refine vL hk0 [] ?_;simp only [go_sem,qa,qb,qc,qd,qe,qf,qg,qh,qi,qj,qk,ql,qm,qn,qo,qp,qq,qr,qs,reduceIte,reduceCtorEq,jE2];first|done|rfl|(repeat' (apply And.intro))<;>first|rfl|trivial)
   try dsimp only
   omega)
 clear g1 g2 g3 g4
 rintro ⟨h,r,st⟩ ⟨g1,g2,g3,g4⟩
 simp only [] at g1 g2 g3 g4
 simp only [go_sem,qa,qb,qc,qd,qe,qf,qg,qh,qi,qj,qk,ql,qm,qn,qo,qp,qq,qr,qs,reduceIte,reduceCtorEq]
 repeat' (first|refine vS fun K hK=>?_|refine hK _ ?_;clear hK K|refine hX ?_;clear hX hY X Y|refine hY ?_;clear hX hY X Y|((first|refine vR tok (by rw [hnt];rfl) ?_|refine vC fun X Y hX hY=>?_|refine vK ?_|refine vT ?_|refine runS_pick l hl rfl ?_ ?_ ?_ (fun x hx=>?_)|((first|apply gR|apply gC)<;>intro hq<;>(try simp only [nT,nF,n1,n0] at hq)<;>(have hb:=hq)<;>(try simp only [dT,dF,eT,eF] at hb)<;>first|(exfalso;omega)|((try simp only [hq]);clear hq)))<;>(try simp only [go_sem,qa,qb,qc,qd,qe,qf,qg,qh,qi,qj,qk,ql,qm,qn,qo,qp,qq,qr,qs,reduceIte,reduceCtorEq]))|refine aE ?_ fun hp=>?_|clear hK K)
 all_goals try omega
 all_goals try (
   (apply Exists.intro ((⟨_,_,_,_,⟨_,_,_,_,_,_,_⟩⟩,_));apply And.intro;rotate_left;focus (refine vF [] ?_;simp only [go_sem,qa,qb,qc,qd,qe,qf,qg,qh,qi,qj,qk,ql,qm,qn,qo,qp,qq,qr,qs,reduceIte,reduceCtorEq];first|rfl|refine ⟨?_,?_⟩<;>rfl|(repeat' (apply And.intro))<;>first|rfl|trivial);try dsimp only)
   try dsimp only
   omega)
end Go.Hw
