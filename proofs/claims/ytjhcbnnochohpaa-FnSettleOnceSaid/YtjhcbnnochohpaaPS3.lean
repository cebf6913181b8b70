/- What is proved here: parts of the walk of the law and of its plain side; no condition but those that each theorem states. -/
import Derived.Test.YtjhcbnnochohpaaPD1
import Derived.Test.YtjhcbnnochohpaaPE1
import Derived.Test.YtjhcbnnochohpaaPS1
import Derived.Test.YtjhcbnnochohpaaPS2
import Derived.Test.YtjhcbnnochohpaaPW30b
import Derived.Test.YtjhcbnnochohpaaPW30c
set_option linter.all false
set_option maxRecDepth 100000
set_option maxHeartbeats 16000000
open Int renaming reduceToNat→qk,reduceAdd→ql,reduceSub→qm,reduceNeg→qn,reduceLT→qo,reduceLE→qp,reduceEq→qq,reduceBEq→qr,reduceBNe→qs
open Nat renaming reduceDiv→qa,reduceMod→qb,reduceAdd→qc,reduceMul→qd,reduceSub→qe,reduceLeDiff→qf,reduceBEq→qg,reduceEqDiff→qh,reduceBeqDiff→qi,reduceLT→qj
open Go.Hw renaming runG_split→gR,condG_split→gC,takG_split→gT,effG_split→gE
open Go.Hw.AWp renaming region→vR,seq→vS,cond'→vC,block→vB,skip→vK,ret→vT,exit→vE
open Go.Hw.Fin renaming auto→vF
open Go.Hw.SLe renaming auto→vL
open Go.Hw.CallX renaming of→vO
namespace Go.Hw
open Go.Proofs
def pl_l71Event_ok0:Plan:=(.tak 0 (.tak 1 (.tak 2 (.tak 3 (.tak 4 (.tak 5 (.all (.cons 6 (.tak 7 (.all (.cons 8 (.tak 9 .done) .nil))) .nil))))))))
attribute [go_sem] pl_l71Event_ok0
theorem l71Event_ok (l:List Int) (p:Int) (w:Two) (hl:Bytes l) (h0:0≤p) (h9:p≤900000) (ok1:wOk w.list=true):CallX (α:=Event × Int) Try.prog 111 [.c (.ptr 0 0 0 0),.g (worldA 1)] (rdH l p 0++worldH w 1) 18 (fun x=>p≤x.2∧x.2≤p+40) (fun x=>.o x.1.av) (fun x=>rdH l x.2 0++worldH w 1) 18:=by
 obtain ⟨a,b⟩:=w
 have ok1:wOk [a,b]=true:=ok1
 obtain ⟨w1,w2,w3,w4⟩:=wOk_two ok1
 obtain ⟨q1,q2,q3,q4,q5,q6⟩:=chain_ok w3
 obtain ⟨u1,u2,u3,u4,u5,u6⟩:=chain_ok w1
 have q7:=knows_len q6
 have u7:=knows_len u6
 obtain ⟨r1,r2,r3,r4,r5,r6,r7,r8,r9⟩:=state_ok q3
 obtain ⟨t1,t2,t3,t4,t5,t6,t7,t8,t9⟩:=state_ok u3
 refine vO tok Try.func111 rfl rfl Try.ntmps111 Try.results111 rfl (by decide) (fun cx hnt hk0=>?_)
 refine vS fun K hK=>?_
 refine vR tok (by rw [hnt];rfl) ?_
 simp only [go_sem,qa,qb,qc,qd,qe,qf,qg,qh,qi,qj,qk,ql,qm,qn,qo,qp,qq,qr,qs,reduceIte,reduceCtorEq]
 refine hK _ ?_;clear hK K
 refine vS fun K hK=>?_
 refine vR tok (by rw [hnt];rfl) ?_
 simp only [go_sem,qa,qb,qc,qd,qe,qf,qg,qh,qi,qj,qk,ql,qm,qn,qo,qp,qq,qr,qs,reduceIte,reduceCtorEq]
 refine runS_pick l hl rfl ?_ ?_ ?_ (fun x hx=>?_)
 · omega
 · omega
 · simp
 have ex:x=0 ∨ x=1:=by omega
 clear hx
 rcases ex with rfl|rfl
 · skip
   simp only [go_sem,qa,qb,qc,qd,qe,qf,qg,qh,qi,qj,qk,ql,qm,qn,qo,qp,qq,qr,qs,reduceIte,reduceCtorEq]
   have v1:=knows_in u6

   repeat' (first|(refine AWp.join (x:=.seq (.region 5 _ _) (.cond _ _ _)) (jE1 l ⟨a,b⟩ a b 2 10 1) (fun x=>0≤x.1∧x.1≤90∧p≤x.2∧x.2≤p+4) ?_ ?_)|refine vS fun K hK=>?_|refine hK _ ?_;clear hK K|refine hX ?_;clear hX hY X Y|refine hY ?_;clear hX hY X Y|((first|refine vR tok (by rw [hnt];rfl) ?_|refine vC fun X Y hX hY=>?_|refine vK ?_|refine runS_pick l hl rfl ?_ ?_ ?_ (fun x hx=>?_)|(refine AWp.draw (id:=8) tok mixed pl_l71Event_ok0 [20,21,16] [0,6] (by kernel_rfl) (by kernel_rfl) (by rw [hnt];rfl) ?_)|refine effS_pick l hl rfl ?_ ?_ ?_ (fun x hx=>?_)|(apply gC<;>intro hq<;>(try simp only [nT,nF,n1,n0] at hq)<;>(have hb:=hq)<;>(try simp only [dT,dF,eT,eF] at hb)<;>first|(exfalso;omega)|((try simp only [hq]);clear hq)))<;>(try simp only [go_sem,qa,qb,qc,qd,qe,qf,qg,qh,qi,qj,qk,ql,qm,qn,qo,qp,qq,qr,qs,reduceIte,reduceCtorEq]))|refine Fits.of ?_ ?_|(refine aL ?_ (fun hp=>?_)<;>((try simp only [rowSet_fI hp,rowSet_fI2 hp]);(try simp only [rowSet_fB hp])))|refine aE ?_ fun hp=>?_|refine aC ?_ fun hp=>?_|refine And.intro ?_ ?_|clear hK K)
   all_goals try omega
   all_goals try (
     have v2:=v1 ((a.knows.length:Int) - 1).toNat (by omega)
     apply Exists.intro (_,_)
     apply And.intro
     rotate_left
     focus (refine vL hk0 [] ?_;simp only [go_sem,qa,qb,qc,qd,qe,qf,qg,qh,qi,qj,qk,ql,qm,qn,qo,qp,qq,qr,qs,reduceIte,reduceCtorEq,jE1];first|done|rfl|(repeat' (apply And.intro))<;>first|rfl|trivial)
     try dsimp only
     omega)
   all_goals try (
     have v2:=v1 x.toNat (by omega)
     apply Exists.intro (_,_)
     apply And.intro
     rotate_left
     focus (refine vL hk0 [] ?_;simp only [go_sem,qa,qb,qc,qd,qe,qf,qg,qh,qi,qj,qk,ql,qm,qn,qo,qp,qq,qr,qs,reduceIte,reduceCtorEq,jE1];first|done|rfl|(repeat' (apply And.intro))<;>first|rfl|trivial)
     try dsimp only
     omega)
   all_goals try (
     apply Exists.intro (_,_)
     apply And.intro
     rotate_left
     focus (refine vL hk0 [] ?_;simp only [go_sem,qa,qb,qc,qd,qe,qf,qg,qh,qi,qj,qk,ql,qm,qn,qo,qp,qq,qr,qs,reduceIte,reduceCtorEq,jE1];first|done|rfl|(repeat' (apply And.intro))<;>first|rfl|trivial)
     try dsimp only
     omega)
   rintro ⟨h,r⟩ ⟨g1,g2,g3,g4⟩
   exact AWp.join _ _ (ev_mid_1 l p a b hl h0 h9 ok1 cx hnt hk0 h r g1 g2 g3 g4) (fun y hy=>ev_rest_1 l p a b hl h0 h9 ok1 cx hnt hk0 y.1 y.2 hy.1 hy.2.1 hy.2.2.1 hy.2.2.2)
 · skip
   simp only [go_sem,qa,qb,qc,qd,qe,qf,qg,qh,qi,qj,qk,ql,qm,qn,qo,qp,qq,qr,qs,reduceIte,reduceCtorEq]
   have v1:=knows_in q6

   repeat' (first|(refine AWp.join (x:=.seq (.region 5 _ _) (.cond _ _ _)) (jE1 l ⟨a,b⟩ b a 10 2 2) (fun x=>0≤x.1∧x.1≤90∧p≤x.2∧x.2≤p+4) ?_ ?_)|refine vS fun K hK=>?_|refine hK _ ?_;clear hK K|refine hX ?_;clear hX hY X Y|refine hY ?_;clear hX hY X Y|((first|refine vR tok (by rw [hnt];rfl) ?_|refine vC fun X Y hX hY=>?_|refine vK ?_|refine runS_pick l hl rfl ?_ ?_ ?_ (fun x hx=>?_)|(refine AWp.draw (id:=8) tok mixed pl_l71Event_ok0 [20,21,8] [0,6] (by kernel_rfl) (by kernel_rfl) (by rw [hnt];rfl) ?_)|refine effS_pick l hl rfl ?_ ?_ ?_ (fun x hx=>?_)|(apply gC<;>intro hq<;>(try simp only [nT,nF,n1,n0] at hq)<;>(have hb:=hq)<;>(try simp only [dT,dF,eT,eF] at hb)<;>first|(exfalso;omega)|((try simp only [hq]);clear hq)))<;>(try simp only [go_sem,qa,qb,qc,qd,qe,qf,qg,qh,qi,qj,qk,ql,qm,qn,qo,qp,qq,qr,qs,reduceIte,reduceCtorEq]))|refine Fits.of ?_ ?_|(refine aL ?_ (fun hp=>?_)<;>((try simp only [rowSet_fI hp,rowSet_fI2 hp]);(try simp only [rowSet_fB hp])))|refine aE ?_ fun hp=>?_|refine aC ?_ fun hp=>?_|refine And.intro ?_ ?_|clear hK K)
   all_goals try omega
   all_goals try (
     have v2:=v1 ((b.knows.length:Int) - 1).toNat (by omega)
     apply Exists.intro (_,_)
     apply And.intro
     rotate_left
     focus (refine vL hk0 [] ?_;simp only [go_sem,qa,qb,qc,qd,qe,qf,qg,qh,qi,qj,qk,ql,qm,qn,qo,qp,qq,qr,qs,reduceIte,reduceCtorEq,jE1];first|done|rfl|(repeat' (apply And.intro))<;>first|rfl|trivial)
     try dsimp only
     omega)
   all_goals try (
     have v2:=v1 x.toNat (by omega)
     apply Exists.intro (_,_)
     apply And.intro
     rotate_left
     focus (refine vL hk0 [] ?_;simp only [go_sem,qa,qb,qc,qd,qe,qf,qg,qh,qi,qj,qk,ql,qm,qn,qo,qp,qq,qr,qs,reduceIte,reduceCtorEq,jE1];first|done|rfl|(repeat' (apply And.intro))<;>first|rfl|trivial)
     try dsimp only
     omega)
   all_goals try (
     apply Exists.intro (_,_)
     apply And.intro
     rotate_left
     focus (refine vL hk0 [] ?_;simp only [go_sem,qa,qb,qc,qd,qe,qf,qg,qh,qi,qj,qk,ql,qm,qn,qo,qp,qq,qr,qs,reduceIte,reduceCtorEq,jE1];first|done|rfl|(repeat' (apply And.intro))<;>first|rfl|trivial)
     try dsimp only
     omega)
   rintro ⟨h,r⟩ ⟨g1,g2,g3,g4⟩
   exact AWp.join _ _ (ev_mid_2 l p a b hl h0 h9 ok1 cx hnt hk0 h r g1 g2 g3 g4) (fun y hy=>ev_rest_2 l p a b hl h0 h9 ok1 cx hnt hk0 y.1 y.2 hy.1 hy.2.1 hy.2.2.1 hy.2.2.2)
theorem State.eq_iff {a b:State}:a=b ↔ (a.way=b.way∧a.ver=b.ver∧a.want=b.want∧a.sent=b.sent∧a.live=b.live∧a.back=b.back∧a.got=b.got):=by
 cases a;cases b;simp
theorem Chain.eq_iff {a b:Chain}:a=b ↔ (a.id=b.id∧a.bank=b.bank∧a.state=b.state∧a.past=b.past∧a.knows=b.knows):=by
 cases a;cases b;simp
theorem list_eq {α:Type} {d:α} {a b:List α} (h1:a.length=b.length) (h2:∀ j,j < a.length→a.getD j d=b.getD j d):a=b:=by
 refine List.ext_getElem h1 fun i hi hi2=>?_
 have:=h2 i hi
 simpa [List.getD,hi,hi2] using this
theorem list_ne {α:Type} {d:α} {a b:List α} {j:Nat} (h2:a.getD j d ≠ b.getD j d):a ≠ b:=fun e=>h2 (by rw [e])
theorem len_ne {α:Type} {a b:List α} (h:¬ (a.length:Int)=b.length):a ≠ b:=fun e=>h (by rw [e])
theorem lists_false {α:Type} [DecidableEq α] {a b:List α} (h:a ≠ b):false=decide (a=b):=(decide_eq_false h).symm
theorem lists_true {α:Type} [DecidableEq α] {a b:List α} (h:a=b):true=decide (a=b):=(decide_eq_true h).symm
theorem lwInts_ok (a b:List Int) (h1:a.length≤1000000):Call Try.prog 33 [.c (.t (intsT a)),.c (.t (intsT b))] [] 0 (.o (BB (decide (a=b)))) [] 0:=by
 refine vO tok Try.func33 rfl rfl Try.ntmps33 Try.results33 rfl (by decide) (fun cx hnt hk0=>?_)
 repeat' (first|refine vS fun K hK=>?_|refine hK _ ?_;clear hK K|refine hX ?_;clear hX hY X Y|refine hY ?_;clear hX hY X Y|refine vB ?_|((first|refine vR tok (by rw [hnt];rfl) ?_|refine vC fun X Y hX hY=>?_|refine vK ?_|refine vT ?_|refine vF [] ?_|(apply gC<;>intro hq<;>(try simp only [nT,nF,n1,n0] at hq)<;>(have hb:=hq)<;>(try simp only [dT,dF,eT,eF] at hb)<;>first|(exfalso;omega)|((try simp only [hq]);clear hq)))<;>(try simp only [go_sem,qa,qb,qc,qd,qe,qf,qg,qh,qi,qj,qk,ql,qm,qn,qo,qp,qq,qr,qs,reduceIte,reduceCtorEq]))|clear hK K)
 · exact lists_false (len_ne (by assumption))
 refine AWp.loop (fun i:Nat=>⟨[(0,.o (.c (.t (intsT a)))),(1,.o (.c (.t (intsT b)))),(5,.o (I i))],[],0⟩) (fun i=>i≤a.length∧∀ j,j < i→a.getD j 0=b.getD j 0) (fun i=>a.length - i) 0 ⟨Nat.zero_le _,fun j hj=>absurd hj (Nat.not_lt_zero j)⟩ ?_ ?_
 · refine vL hk0 [] ?_;simp only [go_sem,qa,qb,qc,qd,qe,qf,qg,qh,qi,qj,qk,ql,qm,qn,qo,qp,qq,qr,qs,reduceIte,reduceCtorEq]
   simp
 intro i ⟨hi,hr⟩
 repeat' (first|refine vS fun K hK=>?_|refine hK _ ?_;clear hK K|refine hX ?_;clear hX hY X Y|refine hY ?_;clear hX hY X Y|refine vB ?_|((first|refine vR tok (by rw [hnt];rfl) ?_|refine vC fun X Y hX hY=>?_|refine vK ?_|refine vE ?_|refine vT ?_|refine vF [] ?_|(refine AWp.draw (id:=6) tok mixed (.tak 0 (.tak 1 (.tak 2 (.tak 3 (.tak 4 (.tak 5 (.tak 6 (.tak 7 (.tak 8 .done))))))))) [] [0,1,5] (by kernel_rfl) (by kernel_rfl) (by rw [hnt];rfl) ?_)|refine vL hk0 [] ?_|(apply gC<;>intro hq<;>(try simp only [nT,nF,n1,n0] at hq)<;>(have hb:=hq)<;>(try simp only [dT,dF,eT,eF] at hb)<;>first|(exfalso;omega)|((try simp only [hq]);clear hq)))<;>(try simp only [go_sem,qa,qb,qc,qd,qe,qf,qg,qh,qi,qj,qk,ql,qm,qn,qo,qp,qq,qr,qs,reduceIte,reduceCtorEq]))|refine ⟨i+1,?_,?_,?_⟩|refine Fits.of ?_ ?_|refine aE ?_ fun hp=>?_|refine aC ?_ fun hp=>?_|refine And.intro ?_ ?_|clear hK K)
 all_goals try (first|omega|(simp only [dA,dB,dC];omega))
 · exact lists_false (list_ne (by first|assumption|simpa [-List.getD_eq_getElem?_getD,bne_iff_ne] using hb))
 · intro j hj
   rcases Nat.lt_succ_iff_lt_or_eq.1 hj with h'|rfl
   · exact hr j h'
   · first|assumption|simpa [-List.getD_eq_getElem?_getD,bne_iff_ne] using hb
 · exact lists_true (list_eq (by omega) fun j hj=>hr j (by omega))
theorem lwBools_ok (a b:List Bool) (h1:a.length≤1000000):Call Try.prog 68 [.c (.t (boolsT a)),.c (.t (boolsT b))] [] 0 (.o (BB (decide (a=b)))) [] 0:=by
 refine vO tok Try.func68 rfl rfl Try.ntmps68 Try.results68 rfl (by decide) (fun cx hnt hk0=>?_)
 repeat' (first|refine vS fun K hK=>?_|refine hK _ ?_;clear hK K|refine hX ?_;clear hX hY X Y|refine hY ?_;clear hX hY X Y|refine vB ?_|((first|refine vR tok (by rw [hnt];rfl) ?_|refine vC fun X Y hX hY=>?_|refine vK ?_|refine vT ?_|refine vF [] ?_|(apply gC<;>intro hq<;>(try simp only [nT,nF,n1,n0] at hq)<;>(have hb:=hq)<;>(try simp only [dT,dF,eT,eF] at hb)<;>first|(exfalso;omega)|((try simp only [hq]);clear hq)))<;>(try simp only [go_sem,qa,qb,qc,qd,qe,qf,qg,qh,qi,qj,qk,ql,qm,qn,qo,qp,qq,qr,qs,reduceIte,reduceCtorEq]))|clear hK K)
 · exact lists_false (len_ne (by assumption))
 refine AWp.loop (fun i:Nat=>⟨[(0,.o (.c (.t (boolsT a)))),(1,.o (.c (.t (boolsT b)))),(5,.o (I i))],[],0⟩) (fun i=>i≤a.length∧∀ j,j < i→a.getD j false=b.getD j false) (fun i=>a.length - i) 0 ⟨Nat.zero_le _,fun j hj=>absurd hj (Nat.not_lt_zero j)⟩ ?_ ?_
 · refine vL hk0 [] ?_;simp only [go_sem,qa,qb,qc,qd,qe,qf,qg,qh,qi,qj,qk,ql,qm,qn,qo,qp,qq,qr,qs,reduceIte,reduceCtorEq]
   simp
 intro i ⟨hi,hr⟩
 repeat' (first|refine vS fun K hK=>?_|refine hK _ ?_;clear hK K|refine hX ?_;clear hX hY X Y|refine hY ?_;clear hX hY X Y|refine vB ?_|((first|refine vR tok (by rw [hnt];rfl) ?_|refine vC fun X Y hX hY=>?_|refine vK ?_|refine vE ?_|refine vT ?_|refine vF [] ?_|(refine AWp.draw (id:=6) tok mixed (.tak 0 (.tak 1 (.tak 2 (.tak 3 (.tak 4 (.tak 5 (.tak 6 (.tak 7 (.tak 8 .done))))))))) [] [0,1,5] (by kernel_rfl) (by kernel_rfl) (by rw [hnt];rfl) ?_)|refine vL hk0 [] ?_|(apply gC<;>intro hq<;>(try simp only [nT,nF,n1,n0] at hq)<;>(have hb:=hq)<;>(try simp only [dT,dF,eT,eF] at hb)<;>first|(exfalso;omega)|((try simp only [hq]);clear hq)))<;>(try simp only [go_sem,qa,qb,qc,qd,qe,qf,qg,qh,qi,qj,qk,ql,qm,qn,qo,qp,qq,qr,qs,reduceIte,reduceCtorEq]))|refine ⟨i+1,?_,?_,?_⟩|refine Fits.of ?_ ?_|refine aE ?_ fun hp=>?_|refine aC ?_ fun hp=>?_|refine And.intro ?_ ?_|clear hK K)
 all_goals try (first|omega|(simp only [dA,dB,dC];omega))
 · exact lists_false (list_ne (by first|assumption|simpa [-List.getD_eq_getElem?_getD,bne_iff_ne] using hb))
 · intro j hj
   rcases Nat.lt_succ_iff_lt_or_eq.1 hj with h'|rfl
   · exact hr j h'
   · first|assumption|simpa [-List.getD_eq_getElem?_getD,bne_iff_ne] using hb
 · exact lists_true (list_eq (by omega) fun j hj=>hr j (by omega))
theorem lwBank_ok (a b:Bank) (h1:a.own.length≤1000000) (h2:a.notes.length≤1000000):Call Try.prog 31 [a.av,b.av] [] 0 (.o (BB (decide (a=b)))) [] 0:=by
 refine vO tok Try.func31 rfl rfl Try.ntmps31 Try.results31 rfl (by decide) (fun cx hnt hk0=>?_)

 repeat' (first|refine vS fun K hK=>?_|refine hK _ ?_;clear hK K|((first|refine vR tok (by rw [hnt];rfl) ?_|refine vT ?_|refine vF [] ?_|refine runS_c [] (lwInts_ok a.own b.own h1) rfl ?_ ?_ ?_|refine runS_c [] (lwInts_ok a.notes b.notes h2) rfl ?_ ?_ ?_|(apply gR<;>intro hq<;>(try simp only [nT,nF,n1,n0] at hq)<;>(have hb:=hq)<;>(try simp only [dT,dF,eT,eF] at hb)<;>first|(exfalso;omega)|((try simp only [hq]);clear hq)))<;>(try simp only [go_sem,qa,qb,qc,qd,qe,qf,qg,qh,qi,qj,qk,ql,qm,qn,qo,qp,qq,qr,qs,reduceIte,reduceCtorEq])))
 all_goals (obtain ⟨a1,a2,a3⟩:=a;obtain ⟨b1,b2,b3⟩:=b;simp_all)
def State.fit (s:State):Prop:=s.sent.length≤1000000∧s.live.length≤1000000∧s.back.length≤1000000∧s.got.length≤1000000
theorem lwState_ok (a b:State) (h1:a.sent.length≤1000000) (h2:a.live.length≤1000000) (h3:a.back.length≤1000000) (h4:a.got.length≤1000000):Call Try.prog 32 [a.av,b.av] [] 0 (.o (BB (decide (a=b)))) [] 0:=by
 refine vO tok Try.func32 rfl rfl Try.ntmps32 Try.results32 rfl (by decide) (fun cx hnt hk0=>?_)

 repeat' (first|refine vS fun K hK=>?_|refine hK _ ?_;clear hK K|refine hX ?_;clear hX hY X Y|refine hY ?_;clear hX hY X Y|refine vB ?_|((first|refine vR tok (by rw [hnt];rfl) ?_|refine vC fun X Y hX hY=>?_|refine vK ?_|refine vT ?_|refine vF [] ?_|((first|apply gR|apply gC)<;>intro hq<;>(try simp only [nT,nF,n1,n0] at hq)<;>(have hb:=hq)<;>(try simp only [dT,dF,eT,eF] at hb)<;>first|(exfalso;omega)|((try simp only [hq]);clear hq)))<;>(try simp only [go_sem,qa,qb,qc,qd,qe,qf,qg,qh,qi,qj,qk,ql,qm,qn,qo,qp,qq,qr,qs,reduceIte,reduceCtorEq]))|clear hK K)
 all_goals try (obtain ⟨a1,a2,a3,a4,a5,a6,a7⟩:=a;obtain ⟨b1,b2,b3,b4,b5,b6,b7⟩:=b;simp_all;done)
 all_goals try (refine (decide_eq_false fun e=>?_).symm;subst e;omega)
 refine AWp.loop (fun i:Nat=>⟨[(2,.o (.c (.ptr 0 0 0 0))),(3,.o (.c (.ptr 1 0 0 0))),(5,.o (I i))],[(0,a.box),(1,b.box)],2⟩) (fun i=>i≤a.sent.length∧∀ j,j < i→a.sent.getD j default=b.sent.getD j default) (fun i=>a.sent.length - i) 0 ⟨Nat.zero_le _,fun j hj=>absurd hj (Nat.not_lt_zero j)⟩ ?_ ?_
 · refine vL hk0 [] ?_;simp only [go_sem,qa,qb,qc,qd,qe,qf,qg,qh,qi,qj,qk,ql,qm,qn,qo,qp,qq,qr,qs,reduceIte,reduceCtorEq]
   simp
 intro i ⟨hi,hr⟩

 repeat' (first|refine vS fun K hK=>?_|refine hK _ ?_;clear hK K|refine hX ?_;clear hX hY X Y|refine hY ?_;clear hX hY X Y|refine vB ?_|((first|refine vR tok (by rw [hnt];rfl) ?_|refine vC fun X Y hX hY=>?_|refine vK ?_|refine vE ?_|refine vT ?_|refine vF [] ?_|refine runS_c [] (lwBools_ok a.live b.live h2) rfl ?_ ?_ ?_|refine runS_c [] (lwBools_ok a.back b.back h3) rfl ?_ ?_ ?_|refine runS_c [] (lwInts_ok a.got b.got h4) rfl ?_ ?_ ?_|(refine AWp.draw (id:=6) tok mixed (.tak 0 (.tak 1 (.tak 2 (.tak 3 (.tak 4 (.tak 5 (.tak 6 (.tak 7 (.tak 8 (.tak 9 (.tak 10 .done))))))))))) [0,1] [2,3,5] (by kernel_rfl) (by kernel_rfl) (by rw [hnt];rfl) ?_)|refine vL hk0 [] ?_|((first|apply gR|apply gC)<;>intro hq<;>(try simp only [nT,nF,n1,n0] at hq)<;>(have hb:=hq)<;>(try simp only [dT,dF,eT,eF] at hb)<;>first|(exfalso;omega)|((try simp only [hq]);clear hq)))<;>(try simp only [go_sem,qa,qb,qc,qd,qe,qf,qg,qh,qi,qj,qk,ql,qm,qn,qo,qp,qq,qr,qs,reduceIte,reduceCtorEq]))|refine ⟨i+1,?_,?_,?_⟩|refine Fits.of ?_ ?_|refine aE ?_ fun hp=>?_|refine aC ?_ fun hp=>?_|refine And.intro ?_ ?_|clear hK K)
 all_goals try (first|omega|(simp only [dA,dB,dC];omega))
 · refine (decide_eq_false fun e=>?_).symm;subst e;simp at hb
 · intro j hj
   rcases Nat.lt_succ_iff_lt_or_eq.1 hj with h'|rfl
   · exact hr j h'
   · exact Packet.eq_iff.2 (by simpa [-List.getD_eq_getElem?_getD,and_assoc] using hb)
 all_goals (have es:a.sent=b.sent:=list_eq (by omega) fun j hj=>hr j (by omega))
 all_goals simp [State.eq_iff, *]
def Chain.fit (c:Chain):Prop:=c.bank.own.length≤1000000∧c.bank.notes.length≤1000000∧c.state.fit∧(∀ i,(c.past.getD i default).fit)∧c.past.length≤1000000∧c.knows.length≤1000000
theorem lwChain_ok (a b:Chain) (h:a.fit):Call Try.prog 8 [a.av,b.av] [] 0 (.o (BB (decide (a=b)))) [] 0:=by
 obtain ⟨h1,h2,⟨h3,h4,h5,h6⟩,h7,h8,h9⟩:=h
 refine vO tok Try.func8 rfl rfl Try.ntmps8 Try.results8 rfl (by decide) (fun cx hnt hk0=>?_)

 repeat' (first|refine vS fun K hK=>?_|refine hK _ ?_;clear hK K|refine hX ?_;clear hX hY X Y|refine hY ?_;clear hX hY X Y|refine vB ?_|((first|refine vR tok (by rw [hnt];rfl) ?_|refine vC fun X Y hX hY=>?_|refine vK ?_|refine vT ?_|refine vF [] ?_|refine runS_c [] (lwBank_ok a.bank b.bank h1 h2) rfl ?_ ?_ ?_|refine runS_c [] (lwState_ok a.state b.state h3 h4 h5 h6) rfl ?_ ?_ ?_|refine runS_c [] (lwInts_ok a.knows b.knows h9) rfl ?_ ?_ ?_|((first|apply gR|apply gC)<;>intro hq<;>(try simp only [nT,nF,n1,n0] at hq)<;>(have hb:=hq)<;>(try simp only [dT,dF,eT,eF] at hb)<;>first|(exfalso;omega)|((try simp only [hq]);clear hq)))<;>(try simp only [go_sem,qa,qb,qc,qd,qe,qf,qg,qh,qi,qj,qk,ql,qm,qn,qo,qp,qq,qr,qs,reduceIte,reduceCtorEq]))|clear hK K)
 all_goals try (simp [Chain.eq_iff, *];done)
 all_goals try (refine (decide_eq_false fun e=>?_).symm;subst e;omega)
 refine AWp.loop (fun i:Nat=>⟨[(2,.o (.c (.ptr 0 0 0 0))),(3,.o (.c (.ptr 1 0 0 0))),(5,.o (I i))],[(0,a.box),(1,b.box)],2⟩) (fun i=>i≤a.past.length∧∀ j,j < i→a.past.getD j default=b.past.getD j default) (fun i=>a.past.length - i) 0 ⟨Nat.zero_le _,fun j hj=>absurd hj (Nat.not_lt_zero j)⟩ ?_ ?_
 · refine vL hk0 [] ?_;simp only [go_sem,qa,qb,qc,qd,qe,qf,qg,qh,qi,qj,qk,ql,qm,qn,qo,qp,qq,qr,qs,reduceIte,reduceCtorEq]
   simp
 intro i ⟨hi,hr⟩

 repeat' (first|refine vS fun K hK=>?_|refine hK _ ?_;clear hK K|refine hX ?_;clear hX hY X Y|refine hY ?_;clear hX hY X Y|refine vB ?_|((first|refine vR tok (by rw [hnt];rfl) ?_|refine vC fun X Y hX hY=>?_|refine vK ?_|refine vE ?_|refine vT ?_|refine vF [] ?_|(refine AWp.draw (id:=6) tok mixed (.tak 0 (.tak 1 (.tak 2 (.tak 3 (.tak 4 (.tak 5 (.tak 6 (.tak 7 (.tak 8 (.tak 9 (.all (.cons 10 (.tak 11 .done) .nil)))))))))))) [0,1] [2,3,5] (by kernel_rfl) (by kernel_rfl) (by rw [hnt];rfl) ?_)|(refine effS_c [] (lwState_ok (a.past.getD i default) (b.past.getD i default) (h7 i).1 (h7 i).2.1 (h7 i).2.2.1 (h7 i).2.2.2) rfl ?_ ?_ ?_)|refine vL hk0 [] ?_|(apply gC<;>intro hq<;>(try simp only [nT,nF,n1,n0] at hq)<;>(have hb:=hq)<;>(try simp only [dT,dF,eT,eF] at hb)<;>first|(exfalso;omega)|((try simp only [hq]);clear hq)))<;>(try simp only [go_sem,qa,qb,qc,qd,qe,qf,qg,qh,qi,qj,qk,ql,qm,qn,qo,qp,qq,qr,qs,reduceIte,reduceCtorEq]))|refine ⟨i+1,?_,?_,?_⟩|refine Fits.of ?_ ?_|refine aE ?_ fun hp=>?_|refine aC ?_ fun hp=>?_|refine And.intro ?_ ?_|clear hK K)
 all_goals try (first|omega|(simp only [dA,dB,dC];omega))
 · exact (decide_eq_false fun e=>hb (by rw [e])).symm
 · intro j hj
   rcases Nat.lt_succ_iff_lt_or_eq.1 hj with h'|rfl
   · exact hr j h'
   · exact hb
 · have es:a.past=b.past:=list_eq (by omega) fun j hj=>hr j (by omega)
   simp [Chain.eq_iff, *]
def evCx:List Event→List Cell
 | []=>[]
 | e ::r=>tab 11 0 (fun j=>.t (e.tv j))++evCx r
theorem evC_len:∀ es:List Event,(evCx es).length=es.length * 11
 | []=>rfl
 | e ::r=>by rw [evCx,List.length_append,tab_length,evC_len r,List.length_cons];omega
theorem evTab_get (e:Event) (j:Nat) (h:j < 11) (r:List Cell):(tab 11 0 (fun j=>Cell.t (e.tv j))++r).getD j nix=.t (e.tv j):=by
 match j,h with
 | 0,_=>rfl
 | 1,_=>rfl
 | 2,_=>rfl
 | 3,_=>rfl
 | 4,_=>rfl
 | 5,_=>rfl
 | 6,_=>rfl
 | 7,_=>rfl
 | 8,_=>rfl
 | 9,_=>rfl
 | 10,_=>rfl
theorem evC_get:∀ (es:List Event) (i j:Nat),j < 11→i < es.length→(evCx es).getD (i * 11+j) nix=.t ((es.getD i default).tv j)
 | [],i,j,_,h=>by simp at h
 | e ::r,0,j,hj,_=>by
   rw [evCx,Nat.zero_mul,Nat.zero_add,evTab_get e j hj];rfl
 | e ::r,i+1,j,hj,h=>by
   have h2:i < r.length:=by simpa using h
   have:=evC_get r i j hj h2
   rw [evCx]
   unfold List.getD at this ⊢
   rw [List.getElem?_append_right (by rw [tab_length];omega),tab_length]
   have e1:(i+1) * 11+j - 11=i * 11+j:=by omega
   rw [e1,this];simp
theorem ev_dfl (e:Event) (j:Nat) (h:j < 11):dfl (.t (e.tv j))=.t ((default:Event).tv j):=by
 match j,h with
 | 0,_=>rfl
 | 1,_=>rfl
 | 2,_=>rfl
 | 3,_=>rfl
 | 4,_=>rfl
 | 5,_=>rfl
 | 6,_=>rfl
 | 7,_=>rfl
 | 8,_=>rfl
 | 9,_=>rfl
 | 10,_=>rfl
theorem ev_out (e:Event) (j:Nat) (h:¬ j < 11):nix=.t (e.tv j):=by
 match j,h with
 | j+11,_=>rfl
theorem rowOf_evs (e:Event) (r:List Event):rowOf 11 (evCx (e ::r))=fE (e ::r):=by
 funext i j;unfold rowOf fE
 by_cases h:j < 11
 · rw [if_pos h,evC_len]
   by_cases hi:i < (e ::r).length
   · rw [if_pos (by omega),evC_get _ _ _ h hi]
   · rw [if_neg (by omega)]
     have:(e ::r).getD i default=default:=by unfold List.getD;rw [List.getElem?_eq_none (Nat.le_of_not_lt hi)];rfl
     rw [this,evCx,evTab_get e j h,ev_dfl e j h]
 · rw [if_neg h];exact ev_out _ _ h
def p0:Packet:=⟨0,0,0,0,0,0,0⟩
def openEs (a b:Int):List Event:=[⟨7,a,0,1,p0⟩,⟨1,a,0,0,p0⟩,⟨2,b,1,0,p0⟩,⟨7,b,1,2,p0⟩,⟨1,b,0,0,p0⟩,⟨2,a,1,0,p0⟩,⟨7,a,1,3,p0⟩,⟨1,a,0,0,p0⟩,⟨2,b,2,0,p0⟩,⟨7,b,2,4,p0⟩]
theorem l71Open_ok (l:List Int) (p:Int) (hl:Bytes l) (h0:0≤p) (h9:p≤900000):CallX (α:=List Event × Int) Try.prog 110 [.c (.ptr 0 0 0 0)] (rdH l p 0) 1 (fun x=>x.1.length≤10∧p≤x.2∧x.2≤p+2) (fun x=>.o (.c (.sl 1 11 0 x.1.length))) (fun x=>rdH l x.2 0++[(1,rE x.1)]) 2:=by
 refine vO tok Try.func110 rfl rfl Try.ntmps110 Try.results110 rfl (by decide) (fun cx hnt hk0=>?_)
 repeat' (first|refine vS fun K hK=>?_|refine hK _ ?_;clear hK K|refine hX ?_;clear hX hY X Y|refine hY ?_;clear hX hY X Y|((first|refine vR tok (by rw [hnt];rfl) ?_|refine vC fun X Y hX hY=>?_|refine vK ?_|refine vT ?_|refine runS_pick l hl rfl ?_ ?_ ?_ (fun x hx=>?_)|(apply gC<;>intro hq<;>(try simp only [nT,nF,n1,n0] at hq)<;>(have hb:=hq)<;>(try simp only [dT,dF,eT,eF] at hb)<;>first|(exfalso;omega)|((try simp only [hq]);clear hq)))<;>(try simp only [go_sem,qa,qb,qc,qd,qe,qf,qg,qh,qi,qj,qk,ql,qm,qn,qo,qp,qq,qr,qs,reduceIte,reduceCtorEq]))|refine Fits.of ?_ ?_|refine aE ?_ fun hp=>?_|refine And.intro ?_ ?_|clear hK K)
 all_goals try omega
 · refine ⟨([],p+1),⟨by simp,by dsimp only;omega,by dsimp only;omega⟩,?_⟩
   refine vF [] ?_
   simp only [go_sem,qa,qb,qc,qd,qe,qf,qg,qh,qi,qj,qk,ql,qm,qn,qo,qp,qq,qr,qs,reduceIte,reduceCtorEq,List.length_nil]
 · refine ⟨(openEs (1+x) (3 - (1+x)),p+1+1),⟨by simp [openEs],by dsimp only;omega,by dsimp only;omega⟩,?_⟩
   have e:(openEs (1+x) (3 - (1+x))).length=10:=rfl
   refine vF [] ?_
   simp only [go_sem,qa,qb,qc,qd,qe,qf,qg,qh,qi,qj,qk,ql,qm,qn,qo,qp,qq,qr,qs,reduceIte,reduceCtorEq,e]
   have eo:=rowOf_evs ⟨7,1+x,0,1,p0⟩ (openEs (1+x) (3 - (1+x))).tail
   have e2:(⟨7,1+x,0,1,p0⟩:Event) ::(openEs (1+x) (3 - (1+x))).tail=openEs (1+x) (3 - (1+x)):=rfl
   rw [e2] at eo
   generalize hR:fE (openEs (1+x) (3 - (1+x)))=R at eo ⊢
   simp only [evCx,openEs,p0,tab,go_sem,List.cons_append,List.nil_append] at eo
   simp only [eo]
   rw [← hR]
   simp only [go_sem]
theorem BankMove_ok (b:Bank) (kind src dst sum:Int) (h1:b.own.length≤1000) (h2:b.notes.length≤1000) (h3:b.locked < 1099511627776) :
   Call Try.prog 115 [b.av,I kind,I src,I dst,I sum] [] 0 (.tup [.g (bankA (b.moved kind src dst sum) 0),BB (b.moveB kind src dst sum)]) (bankH (b.moved kind src dst sum) 0) 2:=by
 unfold Bank.moved
 have qk:b.ok=true→(b.list kind).length=3:=fun h=>by
   obtain ⟨q1,q2,_⟩:=bank_ok h
   unfold Bank.list
   split
   · exact parts_len q1
   · exact parts_len q2
 cases hA:b.moveB kind src dst sum
 · refine vO tok Try.func115 rfl rfl Try.ntmps115 Try.results115 rfl (by decide) (fun cx hnt hk0=>?_)
   repeat' (first|refine vS fun K hK=>?_|refine hK _ ?_;clear hK K|refine hX ?_;clear hX hY X Y|refine hY ?_;clear hX hY X Y|((first|refine vR tok (by rw [hnt];rfl) ?_|refine vC fun X Y hX hY=>?_|refine vK ?_|refine vT ?_|refine vF [] ?_|(refine runS_c [] (BankOk_ok b (by omega) (by omega) h3) rfl ?_ ?_ ?_)|refine runS_c [] (l6In_ok _ _ _) rfl ?_ ?_ ?_|refine runS_c [] (l1User_ok _) rfl ?_ ?_ ?_|refine runS_c [] (l1List_tree b kind) rfl ?_ ?_ ?_|((first|apply gR|apply gC)<;>intro hq<;>(try simp only [nT,nF,n1,n0] at hq)<;>(have hb:=hq)<;>(try simp only [dT,dF,eT,eF] at hb)<;>first|(exfalso;omega)|((try simp only [hq]);clear hq)))<;>(try simp only [go_sem,qa,qb,qc,qd,qe,qf,qg,qh,qi,qj,qk,ql,qm,qn,qo,qp,qq,qr,qs,reduceIte,reduceCtorEq,Bool.false_eq_true,Bank.none]))|refine Fits.of ?_ ?_|refine aE ?_ fun hp=>?_|refine aC ?_ fun hp=>?_|refine And.intro ?_ ?_|clear hK K)
   all_goals try (have qk:=qk (by assumption);simp only [In_iff] at *;omega)
   all_goals (exfalso
              have:b.moveB kind src dst sum=true:=by
                clear hA qk
                simp only [Bank.moveB,Bank.at,Bool.true_and,Bool.and_eq_true,decide_eq_true_eq,true_and, *]
                exact ⟨by omega,decide_eq_true (by omega)⟩
              rw [this] at hA;cases hA)
 · have hA2:=hA
   simp only [Bank.moveB,Bool.and_eq_true,decide_eq_true_eq] at hA2
   obtain ⟨hb,h4,h5,h6,h7,h8⟩:=hA2
   obtain ⟨q1,q2,q3,q4,q5⟩:=bank_ok hb
   have q6:=parts_len q1
   have q7:=parts_len q2
   have q8:=parts_get q1 (src - 1).toNat
   have q9:=parts_get q2 (src - 1).toNat
   have q10:=parts_get q1 (dst - 1).toNat
   have q11:=parts_get q2 (dst - 1).toNat
   have h4':=h4;have h5':=h5;have h6':=h6
   rw [In_iff] at h4' h5' h6'
   clear qk
   by_cases hd:kind=1
   · have e:b.list kind=b.own:=by simp [Bank.list,hd]
     have h8':sum≤b.own.getD (src - 1).toNat 0:=by simpa [-List.getD_eq_getElem?_getD,Bank.at,e] using h8
     have q12:=parts_set q1 (i:=(src - 1).toNat) (v:=b.own.getD (src - 1).toNat 0 - sum) (by omega)
     have q13:=parts_get q12 (dst - 1).toNat
     refine vO tok Try.func115 rfl rfl Try.ntmps115 Try.results115 rfl (by decide) (fun cx hnt hk0=>?_)
     repeat' (first|refine vS fun K hK=>?_|refine hK _ ?_;clear hK K|refine hY ?_;clear hX hY X Y|((first|refine vR tok (by rw [hnt];rfl) ?_|refine vC fun X Y hX hY=>?_|refine vK ?_|refine vT ?_|refine vF [] ?_|(refine runS_c [] (BankOk_ok b (by omega) (by omega) h3) rfl ?_ ?_ ?_)|refine runS_c [] (l6In_ok _ _ _) rfl ?_ ?_ ?_|refine runS_c [] (l1User_ok _) rfl ?_ ?_ ?_|refine runS_c [] (l1List_tree b kind) rfl ?_ ?_ ?_|refine runS_c [] (l1Copy_ok b h1 h2) rfl ?_ ?_ ?_|refine runS_c [_,_] (l1List_own b kind hd) rfl ?_ ?_ ?_|((first|apply gR|apply gC)<;>intro hq<;>(try simp only [nT,nF,n1,n0] at hq)<;>(have hb:=hq)<;>(try simp only [dT,dF,eT,eF] at hb)<;>first|(exfalso;omega)|((try simp only [hq]);clear hq)))<;>(try simp only [go_sem,qa,qb,qc,qd,qe,qf,qg,qh,qi,qj,qk,ql,qm,qn,qo,qp,qq,qr,qs,reduceIte,reduceCtorEq,hb,h4,h5,h6,e,Bank.moveD,Bank.dec,Bank.add,Bank.put,Bank.list,Bank.at,if_pos hd]))|refine Fits.of ?_ ?_|(refine aL ?_ (fun hp=>?_)<;>((try simp only [rowSet_fI hp,rowSet_fI2 hp]);(try simp only [rowSet_fB hp])))|refine aE ?_ fun hp=>?_|refine aC ?_ fun hp=>?_|refine And.intro ?_ ?_|clear hK K)
     all_goals omega
   · have e:b.list kind=b.notes:=by simp [Bank.list,hd]
     have h8':sum≤b.notes.getD (src - 1).toNat 0:=by simpa [-List.getD_eq_getElem?_getD,Bank.at,e] using h8
     have q12:=parts_set q2 (i:=(src - 1).toNat) (v:=b.notes.getD (src - 1).toNat 0 - sum) (by omega)
     have q13:=parts_get q12 (dst - 1).toNat
     refine vO tok Try.func115 rfl rfl Try.ntmps115 Try.results115 rfl (by decide) (fun cx hnt hk0=>?_)
     repeat' (first|refine vS fun K hK=>?_|refine hK _ ?_;clear hK K|refine hY ?_;clear hX hY X Y|((first|refine vR tok (by rw [hnt];rfl) ?_|refine vC fun X Y hX hY=>?_|refine vK ?_|refine vT ?_|refine vF [] ?_|(refine runS_c [] (BankOk_ok b (by omega) (by omega) h3) rfl ?_ ?_ ?_)|refine runS_c [] (l6In_ok _ _ _) rfl ?_ ?_ ?_|refine runS_c [] (l1User_ok _) rfl ?_ ?_ ?_|refine runS_c [] (l1List_tree b kind) rfl ?_ ?_ ?_|refine runS_c [] (l1Copy_ok b h1 h2) rfl ?_ ?_ ?_|refine runS_c [_,_] (l1List_note b kind hd) rfl ?_ ?_ ?_|((first|apply gR|apply gC)<;>intro hq<;>(try simp only [nT,nF,n1,n0] at hq)<;>(have hb:=hq)<;>(try simp only [dT,dF,eT,eF] at hb)<;>first|(exfalso;omega)|((try simp only [hq]);clear hq)))<;>(try simp only [go_sem,qa,qb,qc,qd,qe,qf,qg,qh,qi,qj,qk,ql,qm,qn,qo,qp,qq,qr,qs,reduceIte,reduceCtorEq,hb,h4,h5,h6,e,Bank.moveD,Bank.dec,Bank.add,Bank.put,Bank.list,Bank.at,if_neg hd]))|refine Fits.of ?_ ?_|(refine aL ?_ (fun hp=>?_)<;>((try simp only [rowSet_fI hp,rowSet_fI2 hp]);(try simp only [rowSet_fB hp])))|refine aE ?_ fun hp=>?_|refine aC ?_ fun hp=>?_|refine And.intro ?_ ?_|clear hK K)
     all_goals omega
def Chain.sendN (c:Chain) (kind src dst sum till:Int):Int:=if c.sendB kind src dst sum till then c.state.sent.length+1 else 0
theorem l12Send_ok (c:Chain) (kind src dst sum till:Int) (ok1:c.ok=true):Call Try.prog 114 [.g (chainA c 0),I kind,I src,I dst,I sum,I till] (chainH c 0) 8
   (.tup [.g (chainA (c.send kind src dst sum till) 8),I (c.sendN kind src dst sum till),BB (c.sendB kind src dst sum till)]) (chainH (c.send kind src dst sum till) 8) 16:=by
 obtain ⟨q1,q2,q3,q4,q5,q6⟩:=chain_ok ok1
 obtain ⟨r1,r2,r3,r4,r5,r6,r7,r8,r9⟩:=state_ok q3
 obtain ⟨b1,b2,b3,b4,b5⟩:=bank_ok q2
 by_cases hw:c.state.way=3
 · cases ep:(c.packet kind src dst sum till).ok
   · have e:c.sendB kind src dst sum till=false:=by simp [Chain.sendB,ep]
     have e1:c.send kind src dst sum till=c:=by simp [Chain.send,e]
     have e2:c.sendN kind src dst sum till=0:=by simp [Chain.sendN,e]
     rw [e1,e2,e]
     refine vO tok Try.func114 rfl rfl Try.ntmps114 Try.results114 rfl (by decide) (fun cx hnt hk0=>?_)

     repeat' (first|refine vS fun K hK=>?_|refine hK _ ?_;clear hK K|refine hX ?_;clear hX hY X Y|((first|refine vR tok (by rw [hnt];rfl) ?_|refine vC fun X Y hX hY=>?_|refine vT ?_|refine vF [] ?_|(refine runS_c [] (PacketOk_ok (c.packet kind src dst sum till)) rfl ?_ ?_ ?_)|(apply gR<;>intro hq<;>(try simp only [nT,nF,n1,n0] at hq)<;>(have hb:=hq)<;>(try simp only [dT,dF,eT,eF] at hb)<;>first|(exfalso;omega)|((try simp only [hq]);clear hq)))<;>(try simp only [go_sem,qa,qb,qc,qd,qe,qf,qg,qh,qi,qj,qk,ql,qm,qn,qo,qp,qq,qr,qs,reduceIte,reduceCtorEq,ep]))|refine Fits.of ?_ ?_|refine And.intro ?_ ?_|clear hK K)
     all_goals omega
   · obtain ⟨p1,p2,p3,p4,p5,p6,p7⟩:=packet_ok ep
     simp only [Chain.packet] at p1 p2 p3 p4 p5 p6 p7
     have ep2:=ep
     simp only [Chain.packet] at ep2
     have hs:In src 1 3=true:=by rw [In_iff];exact p3
     cases eA:c.bank.awayB kind src sum
     · have e:c.sendB kind src dst sum till=false:=by simp [Chain.sendB,eA]
       have e1:c.send kind src dst sum till=c:=by simp [Chain.send,e]
       have e2:c.sendN kind src dst sum till=0:=by simp [Chain.sendN,e]
       rw [e1,e2,e]
       refine vO tok Try.func114 rfl rfl Try.ntmps114 Try.results114 rfl (by decide) (fun cx hnt hk0=>?_)

       repeat' (first|refine vS fun K hK=>?_|refine hK _ ?_;clear hK K|refine hX ?_;clear hX hY X Y|refine hY ?_;clear hX hY X Y|((first|refine vR tok (by rw [hnt];rfl) ?_|refine vC fun X Y hX hY=>?_|refine vK ?_|refine vT ?_|refine vF [] ?_|(refine runS_c [] (PacketOk_ok (c.packet kind src dst sum till)) rfl ?_ ?_ ?_)|refine runS_c [_,_] (l1Away_no c.bank kind src sum q2 hs eA) rfl ?_ ?_ ?_|(apply gR<;>intro hq<;>(try simp only [nT,nF,n1,n0] at hq)<;>(have hb:=hq)<;>(try simp only [dT,dF,eT,eF] at hb)<;>first|(exfalso;omega)|((try simp only [hq]);clear hq)))<;>(try simp only [go_sem,qa,qb,qc,qd,qe,qf,qg,qh,qi,qj,qk,ql,qm,qn,qo,qp,qq,qr,qs,reduceIte,reduceCtorEq,ep,eA]))|refine Fits.of ?_ ?_|refine And.intro ?_ ?_|clear hK K)
       all_goals omega
     · have e:c.sendB kind src dst sum till=true:=by simp [Chain.sendB,eA,ep,hw]
       have e1:c.send kind src dst sum till=c.sendD kind src dst sum till:=by simp [Chain.send,e]
       have e2:c.sendN kind src dst sum till=c.state.sent.length+1:=by simp [Chain.sendN,e]
       have e3:c.bank.away kind src sum=c.bank.awayD kind src sum:=by simp [Bank.away,eA]
       rw [e1,e2,e]
       refine vO tok Try.func114 rfl rfl Try.ntmps114 Try.results114 rfl (by decide) (fun cx hnt hk0=>?_)

       repeat' (first|refine vS fun K hK=>?_|refine hK _ ?_;clear hK K|refine hY ?_;clear hX hY X Y|((first|refine vR tok (by rw [hnt];rfl) ?_|refine vC fun X Y hX hY=>?_|refine vK ?_|refine vT ?_|refine vF [] ?_|(refine runS_c [] (PacketOk_ok (c.packet kind src dst sum till)) rfl ?_ ?_ ?_)|(refine runS_c [_,_] (l1Away_ok c.bank kind src sum q2 hs (by omega) (by omega)) rfl ?_ ?_ ?_)|(refine AWp.draw (id:=11) tok mixed (.tak 0 (.tak 1 (.tak 2 (.all (.cons 3 (.tak 4 (.tak 5 .done)) .nil))))) [8,10] [6,12,15] (by kernel_rfl) (by kernel_rfl) (by rw [hnt];rfl) ?_)|(apply gR<;>intro hq<;>(try simp only [nT,nF,n1,n0] at hq)<;>(have hb:=hq)<;>(try simp only [dT,dF,eT,eF] at hb)<;>first|(exfalso;omega)|((try simp only [hq]);clear hq)))<;>(try simp only [go_sem,qa,qb,qc,qd,qe,qf,qg,qh,qi,qj,qk,ql,qm,qn,qo,qp,qq,qr,qs,reduceIte,reduceCtorEq,ep2,eA,e3,Chain.sendD,Chain.packet]))|refine Fits.of ?_ ?_|refine aE ?_ fun hp=>?_|refine And.intro ?_ ?_|clear hK K)
       all_goals first|omega
 · have e:c.sendB kind src dst sum till=false:=by simp [Chain.sendB,hw]
   have e1:c.send kind src dst sum till=c:=by simp [Chain.send,e]
   have e2:c.sendN kind src dst sum till=0:=by simp [Chain.sendN,e]
   rw [e1,e2,e]
   refine vO tok Try.func114 rfl rfl Try.ntmps114 Try.results114 rfl (by decide) (fun cx hnt hk0=>?_)

   repeat' (first|refine vS fun K hK=>?_|refine hK _ ?_;clear hK K|refine hX ?_;clear hX hY X Y|((first|refine vR tok (by rw [hnt];rfl) ?_|refine vC fun X Y hX hY=>?_|refine vT ?_|refine vF [] ?_|(apply gR<;>intro hq<;>(try simp only [nT,nF,n1,n0] at hq)<;>(have hb:=hq)<;>(try simp only [dT,dF,eT,eF] at hb)<;>first|(exfalso;omega)|((try simp only [hq]);clear hq)))<;>(try simp only [go_sem,qa,qb,qc,qd,qe,qf,qg,qh,qi,qj,qk,ql,qm,qn,qo,qp,qq,qr,qs,reduceIte,reduceCtorEq]))|refine Fits.of ?_ ?_|refine And.intro ?_ ?_|clear hK K)
   all_goals omega
theorem wayDo_rows (s o:State) (n:Int):(wayDo s o n).sent=s.sent∧(wayDo s o n).live=s.live∧(wayDo s o n).back=s.back∧(wayDo s o n).got=s.got:=by
 unfold wayDo
 refine ⟨?_,?_,?_,?_⟩<;>(repeat' split)<;>rfl
theorem l13Step_ok (c:Chain) (s:State) (n:Int) (ok1:c.ok=true) (ok2:s.ok=true):Call Try.prog 116 [.g (chainA c 0),s.av,I n] (chainH c 0) 8 (.tup [.g (chainA (c.step s n) 0),BB (wayMay c.state s n)]) (chainH (c.step s n) 0) 8:=by
 obtain ⟨q1,q2,q3,q4,q5,q6⟩:=chain_ok ok1
 obtain ⟨r1,r2,r3,r4,r5,r6,r7,r8,r9⟩:=state_ok q3
 obtain ⟨t1,t2,t3,t4,t5,t6,t7,t8,t9⟩:=state_ok ok2
 cases e:wayMay c.state s n
 · have e1:c.step s n=c:=by simp [Chain.step,e]
   rw [e1]
   refine vO tok Try.func116 rfl rfl Try.ntmps116 Try.results116 rfl (by decide) (fun cx hnt hk0=>?_)
   repeat' (first|refine vS fun K hK=>?_|refine hK _ ?_;clear hK K|refine hX ?_;clear hX hY X Y|((first|refine vR tok (by rw [hnt];rfl) ?_|refine vC fun X Y hX hY=>?_|refine vT ?_|refine vF [] ?_|(refine runS_v [] (l11May_ok c.state s n (by omega) (by omega) (by omega) (by omega)) ?_ ?_ ?_ ?_ ?_))<;>(try simp only [go_sem,qa,qb,qc,qd,qe,qf,qg,qh,qi,qj,qk,ql,qm,qn,qo,qp,qq,qr,qs,reduceIte,reduceCtorEq,e])))
   all_goals first|omega
 · have e1:c.step s n={ c with state:=wayDo c.state s n }:=by simp [Chain.step,e]
   rw [e1]
   refine vO tok Try.func116 rfl rfl Try.ntmps116 Try.results116 rfl (by decide) (fun cx hnt hk0=>?_)
   repeat' (first|refine vS fun K hK=>?_|refine hK _ ?_;clear hK K|refine hY ?_;clear hX hY X Y|((first|refine vR tok (by rw [hnt];rfl) ?_|refine vC fun X Y hX hY=>?_|refine vK ?_|refine vT ?_|refine vF [] ?_|(refine runS_v [] (l11May_ok c.state s n (by omega) (by omega) (by omega) (by omega)) ?_ ?_ ?_ ?_ ?_)|(refine runS_c [_,_,_,_] (l11Do_ok c.state s n (by omega) (by omega)) rfl ?_ ?_ ?_))<;>(try simp only [go_sem,qa,qb,qc,qd,qe,qf,qg,qh,qi,qj,qk,ql,qm,qn,qo,qp,qq,qr,qs,reduceIte,reduceCtorEq,e]))|refine aE ?_ fun hp=>?_|refine And.intro ?_ ?_)
   all_goals first|omega|(simp [wayDo_rows,rle_fI,rle_fB,rle_fP];done)
def zC:AObj:=.box [.t (.v (.int .i64 0)),.t (.v (.slice none 0 0)),.t (.v (.slice none 0 0)),.t (.v (.int .i64 0)),.t (.v (.int .i64 0)),.t (.v (.int .i64 0)),.t (.v (.int .i64 0)),.t (.v (.slice none 0 0)),.t (.v (.slice none 0 0)),.t (.v (.slice none 0 0)),.t (.v (.slice none 0 0)),.t (.v (.slice none 0 0)),.t (.v (.slice none 0 0))]
attribute [go_sem] zC
theorem filter_le (p:Int→Bool) (l:List Int):(l.filter p).length≤l.length:=List.length_filter_le _ _
theorem l21Know_ok (c o:Chain) (h:Int) (ok1:c.ok=true) (ok2:o.past.length≤1000):Call Try.prog 113 [.g (chainA c 0),.g (chainA o 8),I h] (chainH c 0) 16 (.o (.g (chainA (c.know o h) 16))) (chainH (c.know o h) 16) 24:=by
 obtain ⟨q1,q2,q3,q4,q5,q6⟩:=chain_ok ok1
 have q7:=knows_len q6
 have qa:∀ i,(((c.knows.take i).filter fun x=>decide (x < h))).length≤90:=fun i=>Nat.le_trans (filter_le _ _) (by rw [List.length_take];omega)
 have qb:∀ i,(((c.knows.take i).filter fun x=>decide (h < x))).length≤90:=fun i=>Nat.le_trans (filter_le _ _) (by rw [List.length_take];omega)
 have qc:((c.knows.filter fun x=>decide (x < h))).length≤90:=Nat.le_trans (filter_le _ _) q7
 cases e:c.knowB o h
 · have e1:c.know o h=c:=by simp [Chain.know,e]
   rw [e1]
   cases e2:In h 1 o.past.length
   · refine vO tok Try.func113 rfl rfl Try.ntmps113 Try.results113 rfl (by decide) (fun cx hnt hk0=>?_)
     repeat' (first|(refine vS fun K hK=>?_)|(refine hK _ ?_;clear hK K)|(refine hX ?_;clear hX hY X Y)|((first|(refine vR tok (by rw [hnt];rfl) ?_)|(refine vC fun X Y hX hY=>?_)|(refine vT ?_)|(refine vF [] ?_)|(refine runS_c [] (l6In_ok _ _ _) rfl ?_ ?_ ?_))<;>(try simp only [go_sem,Nat.reduceDiv,Nat.reduceMod,Nat.reduceAdd,Nat.reduceMul,Nat.reduceSub,Nat.reduceLeDiff,Nat.reduceBEq,Nat.reduceEqDiff,Nat.reduceBeqDiff,Nat.reduceLT,Int.reduceToNat,Int.reduceAdd,Int.reduceSub,Int.reduceNeg,Int.reduceLT,Int.reduceLE,Int.reduceEq,Int.reduceBEq,Int.reduceBNe,reduceIte,reduceCtorEq,e2])))
     all_goals first|omega
   · have e3:c.knows.contains h=true:=by
       cases e4:c.knows.contains h with
       | true=>rfl
       | false=>rw [Chain.knowB,e2,e4] at e;cases e
     refine vO tok Try.func113 rfl rfl Try.ntmps113 Try.results113 rfl (by decide) (fun cx hnt hk0=>?_)
     repeat' (first|(refine vS fun K hK=>?_)|(refine hK _ ?_;clear hK K)|(refine hX ?_;clear hX hY X Y)|((first|(refine vR tok (by rw [hnt];rfl) ?_)|(refine vC fun X Y hX hY=>?_)|(refine vT ?_)|(refine vF [] ?_)|(refine runS_c [] (l6In_ok _ _ _) rfl ?_ ?_ ?_)|(refine runS_v [] (l21Among_ok c.knows h (by omega)) ?_ ?_ ?_ ?_ ?_))<;>(try simp only [go_sem,Nat.reduceDiv,Nat.reduceMod,Nat.reduceAdd,Nat.reduceMul,Nat.reduceSub,Nat.reduceLeDiff,Nat.reduceBEq,Nat.reduceEqDiff,Nat.reduceBeqDiff,Nat.reduceLT,Int.reduceToNat,Int.reduceAdd,Int.reduceSub,Int.reduceNeg,Int.reduceLT,Int.reduceLE,Int.reduceEq,Int.reduceBEq,Int.reduceBNe,reduceIte,reduceCtorEq,e2,e3])))
     all_goals first|omega
 · have e1:c.know o h={ c with knows:=c.knows.filter (fun x=>decide (x < h))++h ::c.knows.filter (fun x=>decide (h < x)) }:=by simp [Chain.know,e]
   rw [e1]
   have e2:=e
   simp only [Chain.knowB,Bool.and_eq_true,Bool.not_eq_true'] at e2
   obtain ⟨e3,e4⟩:=e2
   refine vO tok Try.func113 rfl rfl Try.ntmps113 Try.results113 rfl (by decide) (fun cx hnt hk0=>?_)
   repeat' (first|(refine vS fun K hK=>?_)|(refine hK _ ?_;clear hK K)|(refine hY ?_;clear hX hY X Y)|(refine vB ?_)|((first|(refine vR tok (by rw [hnt];rfl) ?_)|(refine vC fun X Y hX hY=>?_)|(refine vK ?_)|(refine runS_c [] (l6In_ok _ _ _) rfl ?_ ?_ ?_)|(refine runS_v [] (l21Among_ok c.knows h (by omega)) ?_ ?_ ?_ ?_ ?_))<;>(try simp only [go_sem,Nat.reduceDiv,Nat.reduceMod,Nat.reduceAdd,Nat.reduceMul,Nat.reduceSub,Nat.reduceLeDiff,Nat.reduceBEq,Nat.reduceEqDiff,Nat.reduceBeqDiff,Nat.reduceLT,Int.reduceToNat,Int.reduceAdd,Int.reduceSub,Int.reduceNeg,Int.reduceLT,Int.reduceLE,Int.reduceEq,Int.reduceBEq,Int.reduceBNe,reduceIte,reduceCtorEq,e3,e4])))
   refine AWp.loop (fun i:Nat=>⟨[(2,.o (I h)),(3,.o (.c (.ptr 16 0 0 0))),(6,.o (.c (.ptr 18 0 0 0))),(7,.o (.c (.sl 19 1 0 ((c.knows.take i).filter fun x=>decide (x < h)).length))),(8,.o (I i))],
     (19,rI ((c.knows.take i).filter fun x=>decide (x < h))) ::(16,.box (chainA c 0)) ::(18,zC) ::chainH c 0,20⟩) (fun i=>i≤c.knows.length) (fun i=>c.knows.length - i) 0 (Nat.zero_le _) ?_ ?_
   · refine vL hk0 [] ?_;simp only [go_sem,Nat.reduceDiv,Nat.reduceMod,Nat.reduceAdd,Nat.reduceMul,Nat.reduceSub,Nat.reduceLeDiff,Nat.reduceBEq,Nat.reduceEqDiff,Nat.reduceBeqDiff,Nat.reduceLT,Int.reduceToNat,Int.reduceAdd,Int.reduceSub,Int.reduceNeg,Int.reduceLT,Int.reduceLE,Int.reduceEq,Int.reduceBEq,Int.reduceBNe,reduceIte,reduceCtorEq,List.take_zero,List.filter_nil]
     all_goals simp
   intro i hi
   have qi:=qa i
   repeat' (first|(refine vS fun K hK=>?_)|(refine hK _ ?_;clear hK K)|(refine hX ?_;clear hX hY X Y)|(refine hY ?_;clear hX hY X Y)|(refine vB ?_)|((first|(refine vR tok (by rw [hnt];rfl) ?_)|(refine vC fun X Y hX hY=>?_)|(refine vK ?_)|(refine vE ?_)|(refine vL hk0 [] ?_)|(apply (condG_split)<;>intro hq<;>(try simp only [nT,nF,n1,n0] at hq)<;>(have hb:=hq)<;>(try simp only [dT,dF,eT,eF] at hb)<;>first|(exfalso;omega)|((try simp only [hq]);clear hq)))<;>(try simp only [go_sem,Nat.reduceDiv,Nat.reduceMod,Nat.reduceAdd,Nat.reduceMul,Nat.reduceSub,Nat.reduceLeDiff,Nat.reduceBEq,Nat.reduceEqDiff,Nat.reduceBeqDiff,Nat.reduceLT,Int.reduceToNat,Int.reduceAdd,Int.reduceSub,Int.reduceNeg,Int.reduceLT,Int.reduceLE,Int.reduceEq,Int.reduceBEq,Int.reduceBNe,reduceIte,reduceCtorEq]))|(refine ⟨i+1,?_,?_,?_⟩)|(refine Fits.of ?_ ?_)|(refine aL ?_ (fun hp=>?_)<;>((try simp only [rowSet_fI hp,rowSet_fI2 hp]);(try simp only [rowSet_fB hp])))|(refine aE ?_ fun hp=>?_)|(refine aC ?_ fun hp=>?_)|(refine And.intro ?_ ?_)|(clear hK K))
   all_goals try (first|omega|(simp only [dA,dB,dC];omega))
   all_goals try (rw [filter_take _ _ _ (by omega),if_pos (by simpa using hb)];simp [rle_fI];done)
   all_goals try (rw [filter_take _ _ _ (by omega),if_neg (by simpa using hb)];simp [rle_fI];done)
   have ei:i=c.knows.length:=by omega
   subst ei
   rw [List.take_length]
   refine AWp.loop (fun i:Nat=>⟨[(2,.o (I h)),(3,.o (.c (.ptr 16 0 0 0))),(6,.o (.c (.ptr 18 0 0 0))),(7,.o (.c (.sl 19 1 0 (((c.knows.filter fun x=>decide (x < h))++h ::(c.knows.take i).filter fun x=>decide (h < x))).length))),(9,.o (I i))],
     (19,rI ((c.knows.filter fun x=>decide (x < h))++h ::(c.knows.take i).filter fun x=>decide (h < x))) ::(16,.box (chainA c 0)) ::(18,zC) ::chainH c 0,20⟩) (fun i=>i≤c.knows.length) (fun i=>c.knows.length - i) 0 (Nat.zero_le _) ?_ ?_
   · refine vL hk0 [] ?_;simp only [go_sem,Nat.reduceDiv,Nat.reduceMod,Nat.reduceAdd,Nat.reduceMul,Nat.reduceSub,Nat.reduceLeDiff,Nat.reduceBEq,Nat.reduceEqDiff,Nat.reduceBeqDiff,Nat.reduceLT,Int.reduceToNat,Int.reduceAdd,Int.reduceSub,Int.reduceNeg,Int.reduceLT,Int.reduceLE,Int.reduceEq,Int.reduceBEq,Int.reduceBNe,reduceIte,reduceCtorEq,List.take_zero,List.filter_nil]
     all_goals simp
   intro i hi
   have qi:=qb i
   repeat' (first|(refine vS fun K hK=>?_)|(refine hK _ ?_;clear hK K)|(refine hX ?_;clear hX hY X Y)|(refine hY ?_;clear hX hY X Y)|(refine vB ?_)|((first|(refine vR tok (by rw [hnt];rfl) ?_)|(refine vC fun X Y hX hY=>?_)|(refine vK ?_)|(refine vE ?_)|(refine vT ?_)|(refine vF [] ?_)|(refine vL hk0 [] ?_)|(apply (condG_split)<;>intro hq<;>(try simp only [nT,nF,n1,n0] at hq)<;>(have hb:=hq)<;>(try simp only [dT,dF,eT,eF] at hb)<;>first|(exfalso;omega)|((try simp only [hq]);clear hq)))<;>(try simp only [go_sem,Nat.reduceDiv,Nat.reduceMod,Nat.reduceAdd,Nat.reduceMul,Nat.reduceSub,Nat.reduceLeDiff,Nat.reduceBEq,Nat.reduceEqDiff,Nat.reduceBeqDiff,Nat.reduceLT,Int.reduceToNat,Int.reduceAdd,Int.reduceSub,Int.reduceNeg,Int.reduceLT,Int.reduceLE,Int.reduceEq,Int.reduceBEq,Int.reduceBNe,reduceIte,reduceCtorEq]))|(refine ⟨i+1,?_,?_,?_⟩)|(refine Fits.of ?_ ?_)|(refine aL ?_ (fun hp=>?_)<;>((try simp only [rowSet_fI hp,rowSet_fI2 hp]);(try simp only [rowSet_fB hp])))|(refine aE ?_ fun hp=>?_)|(refine aC ?_ fun hp=>?_)|(refine And.intro ?_ ?_)|(clear hK K))
   all_goals try (first|omega|(simp only [dA,dB,dC];omega))
   all_goals try (rw [filter_take _ _ _ (by omega),if_pos (by simpa using hb)];simp [rle_fI];done)
   all_goals try (rw [filter_take _ _ _ (by omega),if_neg (by simpa using hb)];simp [rle_fI];done)
   all_goals (have ei:i=c.knows.length:=by omega)
   all_goals (subst ei;simp only [List.take_length])
   all_goals first|omega|(simp [rle_fI];done)
theorem l21Relay_ok (c o:Chain) (ev:Event) (ok1:c.ok=true) (ok2:o.ok=true):Call Try.prog 118 [.g (chainA c 0),.g (chainA o 8),ev.av] (chainH c 0++chainH o 8) 16 (.o (.g (chainA (c.relay o ev) 16))) (chainH (c.relay o ev) 16++chainH o 8) 24:=by
 obtain ⟨q1,q2,q3,q4,q5,q6⟩:=chain_ok ok1
 obtain ⟨u1,u2,u3,u4,u5,u6⟩:=chain_ok ok2
 have q7:=knows_len q6
 cases e:c.relayB o ev.height
 · have e1:c.relay o ev=c:=by simp [Chain.relay,e]
   rw [e1]
   cases e2:c.knows.contains ev.height
   · refine vO tok Try.func118 rfl rfl Try.ntmps118 Try.results118 rfl (by decide) (fun cx hnt hk0=>?_)
     repeat' (first|refine vS fun K hK=>?_|refine hK _ ?_;clear hK K|refine hX ?_;clear hX hY X Y|((first|refine vR tok (by rw [hnt];rfl) ?_|refine vC fun X Y hX hY=>?_|refine vT ?_|refine vF [] ?_|(refine runS_v [] (l21Among_ok c.knows ev.height (by omega)) ?_ ?_ ?_ ?_ ?_))<;>(try simp only [go_sem,qa,qb,qc,qd,qe,qf,qg,qh,qi,qj,qk,ql,qm,qn,qo,qp,qq,qr,qs,reduceIte,reduceCtorEq,e2])))
     all_goals first|omega
   · have e3:¬ ev.height≤o.past.length:=by
       intro h
       have h':decide (ev.height≤(o.past.length:Int))=true:=by simpa using h
       rw [Chain.relayB,e2,h'] at e;cases e
     refine vO tok Try.func118 rfl rfl Try.ntmps118 Try.results118 rfl (by decide) (fun cx hnt hk0=>?_)
     repeat' (first|refine vS fun K hK=>?_|refine hK _ ?_;clear hK K|refine hX ?_;clear hX hY X Y|((first|refine vR tok (by rw [hnt];rfl) ?_|refine vC fun X Y hX hY=>?_|refine vT ?_|refine vF [] ?_|(refine runS_v [] (l21Among_ok c.knows ev.height (by omega)) ?_ ?_ ?_ ?_ ?_)|(apply gC<;>intro hq<;>(try simp only [nT,nF,n1,n0] at hq)<;>(have hb:=hq)<;>(try simp only [dT,dF,eT,eF] at hb)<;>first|(exfalso;omega)|((try simp only [hq]);clear hq)))<;>(try simp only [go_sem,qa,qb,qc,qd,qe,qf,qg,qh,qi,qj,qk,ql,qm,qn,qo,qp,qq,qr,qs,reduceIte,reduceCtorEq,e2])))
     all_goals first|omega
 · have e2 := e
   simp only [Chain.relayB,Bool.and_eq_true,decide_eq_true_eq] at e2
   obtain ⟨e3,e4⟩:=e2
   have e5:1≤ev.height:=by
     have hm:ev.height ∈ c.knows:=by simpa using e3
     obtain ⟨i,hi,e6⟩:=List.getElem_of_mem hm
     have:=q6 i hi
     simp only [knowOk,Bool.and_eq_true,In_iff] at this
     have e7:c.knows.getD i 0=ev.height:=by simp [List.getD,hi,e6]
     omega
   have e6:(o.past.getD (ev.height - 1).toNat default).ok=true:=u5 _ (by omega)
   have e7:c.relay o ev=(if ev.kind=4 then (if ev.packet.ok then c.get (o.at ev.height) ev.packet else c)
     else if ev.kind=5 then c.tell (o.at ev.height) ev.n
     else if ev.kind=6 then c.late (o.at ev.height) ev.height ev.n
     else if ev.kind=7 then c.step (o.at ev.height) ev.n
     else c):=by simp only [Chain.relay,e,if_true]
   rw [e7]
   clear e7
   simp only [Chain.at]
   generalize es:o.past.getD (ev.height - 1).toNat default=s at e6 ⊢
   by_cases k4:ev.kind=4
   · rw [if_pos k4]
     cases ep:ev.packet.ok
     · refine vO tok Try.func118 rfl rfl Try.ntmps118 Try.results118 rfl (by decide) (fun cx hnt hk0=>?_)
       repeat' (first|refine vS fun K hK=>?_|refine hK _ ?_;clear hK K|refine hX ?_;clear hX hY X Y|refine hY ?_;clear hX hY X Y|refine vB ?_|((first|refine vR tok (by rw [hnt];rfl) ?_|refine vC fun X Y hX hY=>?_|refine vK ?_|refine vT ?_|refine vF [] ?_|(refine runS_v [] (l21Among_ok c.knows ev.height (by omega)) ?_ ?_ ?_ ?_ ?_)|refine runS_c [] (PacketOk_ok ev.packet) rfl ?_ ?_ ?_|(apply gC<;>intro hq<;>(try simp only [nT,nF,n1,n0] at hq)<;>(have hb:=hq)<;>(try simp only [dT,dF,eT,eF] at hb)<;>first|(exfalso;omega)|((try simp only [hq]);clear hq)))<;>(try simp only [go_sem,qa,qb,qc,qd,qe,qf,qg,qh,qi,qj,qk,ql,qm,qn,qo,qp,qq,qr,qs,reduceIte,reduceCtorEq,e3,ep,es,Bool.false_eq_true]))|refine Fits.of ?_ ?_|(refine aL ?_ (fun hp=>?_)<;>((try simp only [rowSet_fI hp,rowSet_fI2 hp]);(try simp only [rowSet_fB hp])))|refine aE ?_ fun hp=>?_|refine aC ?_ fun hp=>?_|refine And.intro ?_ ?_|clear hK K)
       all_goals first|omega
     · refine vO tok Try.func118 rfl rfl Try.ntmps118 Try.results118 rfl (by decide) (fun cx hnt hk0=>?_)
       repeat' (first|refine vS fun K hK=>?_|refine hK _ ?_;clear hK K|refine hX ?_;clear hX hY X Y|refine hY ?_;clear hX hY X Y|refine vB ?_|((first|refine vR tok (by rw [hnt];rfl) ?_|refine vC fun X Y hX hY=>?_|refine vK ?_|refine vT ?_|refine vF [] ?_|(refine runS_v [] (l21Among_ok c.knows ev.height (by omega)) ?_ ?_ ?_ ?_ ?_)|refine runS_c [] (PacketOk_ok ev.packet) rfl ?_ ?_ ?_|refine runS_c [_,_,_,_,_,_,_,_] (l13Get_ok c s ev.packet ok1 e6 ep) rfl ?_ ?_ ?_|(apply gC<;>intro hq<;>(try simp only [nT,nF,n1,n0] at hq)<;>(have hb:=hq)<;>(try simp only [dT,dF,eT,eF] at hb)<;>first|(exfalso;omega)|((try simp only [hq]);clear hq)))<;>(try simp only [go_sem,qa,qb,qc,qd,qe,qf,qg,qh,qi,qj,qk,ql,qm,qn,qo,qp,qq,qr,qs,reduceIte,reduceCtorEq,e3,ep,es]))|refine Fits.of ?_ ?_|(refine aL ?_ (fun hp=>?_)<;>((try simp only [rowSet_fI hp,rowSet_fI2 hp]);(try simp only [rowSet_fB hp])))|refine aE ?_ fun hp=>?_|refine aC ?_ fun hp=>?_|refine And.intro ?_ ?_|clear hK K)
       all_goals first|omega
   · rw [if_neg k4]
     by_cases k5:ev.kind=5
     · rw [if_pos k5]
       refine vO tok Try.func118 rfl rfl Try.ntmps118 Try.results118 rfl (by decide) (fun cx hnt hk0=>?_)
       repeat' (first|refine vS fun K hK=>?_|refine hK _ ?_;clear hK K|refine hX ?_;clear hX hY X Y|refine hY ?_;clear hX hY X Y|refine vB ?_|((first|refine vR tok (by rw [hnt];rfl) ?_|refine vC fun X Y hX hY=>?_|refine vK ?_|refine vT ?_|refine vF [] ?_|(refine runS_v [] (l21Among_ok c.knows ev.height (by omega)) ?_ ?_ ?_ ?_ ?_)|refine runS_c [_,_,_,_,_,_,_,_] (l13Tell_ok c s ev.n ok1 e6) rfl ?_ ?_ ?_|(apply gC<;>intro hq<;>(try simp only [nT,nF,n1,n0] at hq)<;>(have hb:=hq)<;>(try simp only [dT,dF,eT,eF] at hb)<;>first|(exfalso;omega)|((try simp only [hq]);clear hq)))<;>(try simp only [go_sem,qa,qb,qc,qd,qe,qf,qg,qh,qi,qj,qk,ql,qm,qn,qo,qp,qq,qr,qs,reduceIte,reduceCtorEq,e3,es]))|refine Fits.of ?_ ?_|(refine aL ?_ (fun hp=>?_)<;>((try simp only [rowSet_fI hp,rowSet_fI2 hp]);(try simp only [rowSet_fB hp])))|refine aE ?_ fun hp=>?_|refine aC ?_ fun hp=>?_|refine And.intro ?_ ?_|clear hK K)
       all_goals first|omega
     · rw [if_neg k5]
       by_cases k6:ev.kind=6
       · rw [if_pos k6]
         refine vO tok Try.func118 rfl rfl Try.ntmps118 Try.results118 rfl (by decide) (fun cx hnt hk0=>?_)
         repeat' (first|refine vS fun K hK=>?_|refine hK _ ?_;clear hK K|refine hX ?_;clear hX hY X Y|refine hY ?_;clear hX hY X Y|refine vB ?_|((first|refine vR tok (by rw [hnt];rfl) ?_|refine vC fun X Y hX hY=>?_|refine vK ?_|refine vT ?_|refine vF [] ?_|(refine runS_v [] (l21Among_ok c.knows ev.height (by omega)) ?_ ?_ ?_ ?_ ?_)|refine runS_c [_,_,_,_,_,_,_,_] (l13Late_ok c s ev.height ev.n ok1 e6) rfl ?_ ?_ ?_|(apply gC<;>intro hq<;>(try simp only [nT,nF,n1,n0] at hq)<;>(have hb:=hq)<;>(try simp only [dT,dF,eT,eF] at hb)<;>first|(exfalso;omega)|((try simp only [hq]);clear hq)))<;>(try simp only [go_sem,qa,qb,qc,qd,qe,qf,qg,qh,qi,qj,qk,ql,qm,qn,qo,qp,qq,qr,qs,reduceIte,reduceCtorEq,e3,es]))|refine Fits.of ?_ ?_|(refine aL ?_ (fun hp=>?_)<;>((try simp only [rowSet_fI hp,rowSet_fI2 hp]);(try simp only [rowSet_fB hp])))|refine aE ?_ fun hp=>?_|refine aC ?_ fun hp=>?_|refine And.intro ?_ ?_|clear hK K)
         all_goals first|omega
       · rw [if_neg k6]
         by_cases k7:ev.kind=7
         · rw [if_pos k7]
           refine vO tok Try.func118 rfl rfl Try.ntmps118 Try.results118 rfl (by decide) (fun cx hnt hk0=>?_)
           repeat' (first|refine vS fun K hK=>?_|refine hK _ ?_;clear hK K|refine hX ?_;clear hX hY X Y|refine hY ?_;clear hX hY X Y|refine vB ?_|((first|refine vR tok (by rw [hnt];rfl) ?_|refine vC fun X Y hX hY=>?_|refine vK ?_|refine vT ?_|refine vF [] ?_|(refine runS_v [] (l21Among_ok c.knows ev.height (by omega)) ?_ ?_ ?_ ?_ ?_)|refine runS_c [_,_,_,_,_,_,_,_] (l13Step_ok c s ev.n ok1 e6) rfl ?_ ?_ ?_|(apply gC<;>intro hq<;>(try simp only [nT,nF,n1,n0] at hq)<;>(have hb:=hq)<;>(try simp only [dT,dF,eT,eF] at hb)<;>first|(exfalso;omega)|((try simp only [hq]);clear hq)))<;>(try simp only [go_sem,qa,qb,qc,qd,qe,qf,qg,qh,qi,qj,qk,ql,qm,qn,qo,qp,qq,qr,qs,reduceIte,reduceCtorEq,e3,es]))|refine Fits.of ?_ ?_|(refine aL ?_ (fun hp=>?_)<;>((try simp only [rowSet_fI hp,rowSet_fI2 hp]);(try simp only [rowSet_fB hp])))|refine aE ?_ fun hp=>?_|refine aC ?_ fun hp=>?_|refine And.intro ?_ ?_|clear hK K)
           all_goals first|omega
         · rw [if_neg k7]
           refine vO tok Try.func118 rfl rfl Try.ntmps118 Try.results118 rfl (by decide) (fun cx hnt hk0=>?_)
           repeat' (first|refine vS fun K hK=>?_|refine hK _ ?_;clear hK K|refine hY ?_;clear hX hY X Y|refine vB ?_|((first|refine vR tok (by rw [hnt];rfl) ?_|refine vC fun X Y hX hY=>?_|refine vK ?_|refine vT ?_|refine vF [] ?_|(refine runS_v [] (l21Among_ok c.knows ev.height (by omega)) ?_ ?_ ?_ ?_ ?_)|(apply gC<;>intro hq<;>(try simp only [nT,nF,n1,n0] at hq)<;>(have hb:=hq)<;>(try simp only [dT,dF,eT,eF] at hb)<;>first|(exfalso;omega)|((try simp only [hq]);clear hq)))<;>(try simp only [go_sem,qa,qb,qc,qd,qe,qf,qg,qh,qi,qj,qk,ql,qm,qn,qo,qp,qq,qr,qs,reduceIte,reduceCtorEq,e3,es]))|refine Fits.of ?_ ?_|(refine aL ?_ (fun hp=>?_)<;>((try simp only [rowSet_fI hp,rowSet_fI2 hp]);(try simp only [rowSet_fB hp])))|refine aE ?_ fun hp=>?_|refine aC ?_ fun hp=>?_|refine And.intro ?_ ?_|clear hK K)
           all_goals first|omega
def pl_StateNew_tree0:Plan:=(.tak 0 (.tak 2 (.tak 3 (.all (.cons 1 (.all (.cons 4 (.tak 5 (.tak 6 (.tak 7 (.all (.cons 8 (.all (.cons 9 (.tak 10 .done) .nil)) .nil))))) (.cons 8 (.all (.cons 4 (.tak 5 (.tak 6 (.tak 7 (.all (.cons 9 (.tak 10 .done) .nil))))) .nil)) .nil))) (.cons 8 (.all (.cons 1 (.all (.cons 4 (.tak 5 (.tak 6 (.tak 7 (.all (.cons 9 (.tak 10 .done) .nil))))) .nil)) .nil)) .nil))))))
attribute [go_sem] pl_StateNew_tree0
theorem StateNew_tree:Call Try.prog 117 [] [] 0 (.o State.new.av) [] 0:=by
 refine vO tok Try.func117 rfl rfl Try.ntmps117 Try.results117 rfl (by decide) (fun cx hnt hk0=>?_)

 repeat' (first|refine vS fun K hK=>?_|refine hK _ ?_;clear hK K|((first|refine vR tok (by rw [hnt];rfl) ?_|refine vT ?_|(refine vF [1,2,3,4] ?_))<;>(try simp only [go_sem,qa,qb,qc,qd,qe,qf,qg,qh,qi,qj,qk,ql,qm,qn,qo,qp,qq,qr,qs,reduceIte,reduceCtorEq,State.new])))
theorem state_new_ok:State.new.ok=true:=by decide
theorem l21Chain_ok (c o:Chain) (kind chain height n seq pk src dst sum till ver:Int) (ok1:c.ok=true) (ok2:o.ok=true) :
   Call Try.prog 85 [.g (chainA c 0),.g (chainA o 8),(Event.mk kind chain height n ⟨seq,pk,src,dst,sum,till,ver⟩).av] (chainH c 0++chainH o 8) 16
     (.o (.g (chainA (c.on o ⟨kind,chain,height,n,⟨seq,pk,src,dst,sum,till,ver⟩⟩) 16))) (chainH (c.on o ⟨kind,chain,height,n,⟨seq,pk,src,dst,sum,till,ver⟩⟩) 16++chainH o 8) 24:=by
 obtain ⟨q1,q2,q3,q4,q5,q6⟩:=chain_ok ok1
 obtain ⟨u1,u2,u3,u4,u5,u6⟩:=chain_ok ok2
 obtain ⟨b1,b2,b3,b4,b5⟩:=bank_ok q2
 have b6:=parts_len b1
 have b7:=parts_len b2
 have b8:=parts_all b1
 by_cases k1:kind=1
 · have e:c.on o ⟨kind,chain,height,n,⟨seq,pk,src,dst,sum,till,ver⟩⟩=c.block:=by simp [Chain.on,k1]
   rw [e]
   refine vO tok Try.func85 rfl rfl Try.ntmps85 Try.results85 rfl (by decide) (fun cx hnt hk0=>?_)
   repeat' (first|refine vS fun K hK=>?_|refine hK _ ?_;clear hK K|refine hX ?_;clear hX hY X Y|refine vB ?_|((first|refine vR tok (by rw [hnt];rfl) ?_|refine vC fun X Y hX hY=>?_|refine vT ?_|refine vF [] ?_|refine runS_c [_,_,_,_,_,_,_,_] (l12Block_ok c ok1) rfl ?_ ?_ ?_|(apply gC<;>intro hq<;>(try simp only [nT,nF,n1,n0] at hq)<;>(have hb:=hq)<;>(try simp only [dT,dF,eT,eF] at hb)<;>first|(exfalso;omega)|((try simp only [hq]);clear hq)))<;>(try simp only [go_sem,qa,qb,qc,qd,qe,qf,qg,qh,qi,qj,qk,ql,qm,qn,qo,qp,qq,qr,qs,reduceIte,reduceCtorEq])))
   all_goals first|omega
 by_cases k2:kind=2
 · have e:c.on o ⟨kind,chain,height,n,⟨seq,pk,src,dst,sum,till,ver⟩⟩=c.know o height:=by simp [Chain.on,k2]
   rw [e]
   refine vO tok Try.func85 rfl rfl Try.ntmps85 Try.results85 rfl (by decide) (fun cx hnt hk0=>?_)
   repeat' (first|refine vS fun K hK=>?_|refine hK _ ?_;clear hK K|refine hX ?_;clear hX hY X Y|refine hY ?_;clear hX hY X Y|refine vB ?_|((first|refine vR tok (by rw [hnt];rfl) ?_|refine vC fun X Y hX hY=>?_|refine vT ?_|refine vF [] ?_|(refine runS_c [_,_,_,_,_,_,_,_,_,_,_,_,_,_,_,_] (l21Know_ok c o height ok1 (by omega)) rfl ?_ ?_ ?_)|(apply gC<;>intro hq<;>(try simp only [nT,nF,n1,n0] at hq)<;>(have hb:=hq)<;>(try simp only [dT,dF,eT,eF] at hb)<;>first|(exfalso;omega)|((try simp only [hq]);clear hq)))<;>(try simp only [go_sem,qa,qb,qc,qd,qe,qf,qg,qh,qi,qj,qk,ql,qm,qn,qo,qp,qq,qr,qs,reduceIte,reduceCtorEq])))
   all_goals first|omega
 by_cases k3:kind=3
 · have e:c.on o ⟨kind,chain,height,n,⟨seq,pk,src,dst,sum,till,ver⟩⟩=c.send pk src dst sum till:=by simp [Chain.on,k3]
   rw [e]
   refine vO tok Try.func85 rfl rfl Try.ntmps85 Try.results85 rfl (by decide) (fun cx hnt hk0=>?_)
   repeat' (first|refine vS fun K hK=>?_|refine hK _ ?_;clear hK K|refine hX ?_;clear hX hY X Y|refine hY ?_;clear hX hY X Y|refine vB ?_|((first|refine vR tok (by rw [hnt];rfl) ?_|refine vC fun X Y hX hY=>?_|refine vT ?_|refine vF [] ?_|refine runS_c [_,_,_,_,_,_,_,_] (l12Send_ok c pk src dst sum till ok1) rfl ?_ ?_ ?_|(apply gC<;>intro hq<;>(try simp only [nT,nF,n1,n0] at hq)<;>(have hb:=hq)<;>(try simp only [dT,dF,eT,eF] at hb)<;>first|(exfalso;omega)|((try simp only [hq]);clear hq)))<;>(try simp only [go_sem,qa,qb,qc,qd,qe,qf,qg,qh,qi,qj,qk,ql,qm,qn,qo,qp,qq,qr,qs,reduceIte,reduceCtorEq])))
   all_goals first|omega
 by_cases k8:kind=8
 · have e:c.on o ⟨kind,chain,height,n,⟨seq,pk,src,dst,sum,till,ver⟩⟩=c.move pk src dst sum:=by simp [Chain.on,k8]
   rw [e]
   cases eB:c.bank.moveB pk src dst sum
   · have e1:c.move pk src dst sum=c:=by simp [Chain.move,eB]
     rw [e1]
     refine vO tok Try.func85 rfl rfl Try.ntmps85 Try.results85 rfl (by decide) (fun cx hnt hk0=>?_)
     repeat' (first|refine vS fun K hK=>?_|refine hK _ ?_;clear hK K|refine hX ?_;clear hX hY X Y|refine hY ?_;clear hX hY X Y|refine vB ?_|((first|refine vR tok (by rw [hnt];rfl) ?_|refine vC fun X Y hX hY=>?_|refine vK ?_|refine vT ?_|refine vF [] ?_|(refine runS_v [] (BankMove_ok c.bank pk src dst sum (by omega) (by omega) (by omega)) ?_ ?_ ?_ ?_ ?_)|(apply gC<;>intro hq<;>(try simp only [nT,nF,n1,n0] at hq)<;>(have hb:=hq)<;>(try simp only [dT,dF,eT,eF] at hb)<;>first|(exfalso;omega)|((try simp only [hq]);clear hq)))<;>(try simp only [go_sem,qa,qb,qc,qd,qe,qf,qg,qh,qi,qj,qk,ql,qm,qn,qo,qp,qq,qr,qs,reduceIte,reduceCtorEq,eB])))
     all_goals first|omega
   · have e1:c.move pk src dst sum={ c with bank:=c.bank.moved pk src dst sum }:=by simp [Chain.move,Bank.moved,eB]
     rw [e1]
     refine vO tok Try.func85 rfl rfl Try.ntmps85 Try.results85 rfl (by decide) (fun cx hnt hk0=>?_)
     repeat' (first|refine vS fun K hK=>?_|refine hK _ ?_;clear hK K|refine hX ?_;clear hX hY X Y|refine hY ?_;clear hX hY X Y|refine vB ?_|((first|refine vR tok (by rw [hnt];rfl) ?_|refine vC fun X Y hX hY=>?_|refine vT ?_|refine vF [] ?_|(refine runS_v [] (BankMove_ok c.bank pk src dst sum (by omega) (by omega) (by omega)) ?_ ?_ ?_ ?_ ?_)|(apply gC<;>intro hq<;>(try simp only [nT,nF,n1,n0] at hq)<;>(have hb:=hq)<;>(try simp only [dT,dF,eT,eF] at hb)<;>first|(exfalso;omega)|((try simp only [hq]);clear hq)))<;>(try simp only [go_sem,qa,qb,qc,qd,qe,qf,qg,qh,qi,qj,qk,ql,qm,qn,qo,qp,qq,qr,qs,reduceIte,reduceCtorEq,eB])))
     all_goals first|omega
 by_cases k7:kind=7∧(n=1 ∨ n=5)
 · have e:c.on o ⟨kind,chain,height,n,⟨seq,pk,src,dst,sum,till,ver⟩⟩=c.step State.new n:=by simp [Chain.on,k7.1,k7.2]
   rw [e]
   obtain ⟨k7,kn⟩:=k7
   rcases kn with kn|kn
   · refine vO tok Try.func85 rfl rfl Try.ntmps85 Try.results85 rfl (by decide) (fun cx hnt hk0=>?_)

     repeat' (first|refine vS fun K hK=>?_|refine hK _ ?_;clear hK K|refine hX ?_;clear hX hY X Y|refine hY ?_;clear hX hY X Y|refine vB ?_|((first|refine vR tok (by rw [hnt];rfl) ?_|refine vC fun X Y hX hY=>?_|refine vT ?_|refine vF [] ?_|(refine AWp.draw (id:=15) tok mixed pl_StateNew_tree0 [16,18] [3,5] (by kernel_rfl) (by kernel_rfl) (by rw [hnt];rfl) ?_)|refine effS_c [] (StateNew_tree) rfl ?_ ?_ ?_|refine effS_c [_,_,_,_,_,_,_,_] (l13Step_ok c State.new n ok1 state_new_ok) rfl ?_ ?_ ?_|((first|apply gR|apply gC)<;>intro hq<;>(try simp only [nT,nF,n1,n0] at hq)<;>(have hb:=hq)<;>(try simp only [dT,dF,eT,eF] at hb)<;>first|(exfalso;omega)|((try simp only [hq]);clear hq)))<;>(try simp only [go_sem,qa,qb,qc,qd,qe,qf,qg,qh,qi,qj,qk,ql,qm,qn,qo,qp,qq,qr,qs,reduceIte,reduceCtorEq]))|refine And.intro ?_ ?_)
     all_goals first|omega
   · refine vO tok Try.func85 rfl rfl Try.ntmps85 Try.results85 rfl (by decide) (fun cx hnt hk0=>?_)

     repeat' (first|refine vS fun K hK=>?_|refine hK _ ?_;clear hK K|refine hX ?_;clear hX hY X Y|refine hY ?_;clear hX hY X Y|refine vB ?_|((first|refine vR tok (by rw [hnt];rfl) ?_|refine vC fun X Y hX hY=>?_|refine vT ?_|refine vF [] ?_|(refine AWp.draw (id:=15) tok mixed pl_StateNew_tree0 [16,18] [3,5] (by kernel_rfl) (by kernel_rfl) (by rw [hnt];rfl) ?_)|refine effS_c [] (StateNew_tree) rfl ?_ ?_ ?_|refine effS_c [_,_,_,_,_,_,_,_] (l13Step_ok c State.new n ok1 state_new_ok) rfl ?_ ?_ ?_|((first|apply gR|apply gC)<;>intro hq<;>(try simp only [nT,nF,n1,n0] at hq)<;>(have hb:=hq)<;>(try simp only [dT,dF,eT,eF] at hb)<;>first|(exfalso;omega)|((try simp only [hq]);clear hq)))<;>(try simp only [go_sem,qa,qb,qc,qd,qe,qf,qg,qh,qi,qj,qk,ql,qm,qn,qo,qp,qq,qr,qs,reduceIte,reduceCtorEq]))|refine And.intro ?_ ?_)
     all_goals first|omega
 · have e:c.on o ⟨kind,chain,height,n,⟨seq,pk,src,dst,sum,till,ver⟩⟩=c.relay o ⟨kind,chain,height,n,⟨seq,pk,src,dst,sum,till,ver⟩⟩:=by
     simp [Chain.on,k1,k2,k3,k8,k7]
   rw [e]
   refine vO tok Try.func85 rfl rfl Try.ntmps85 Try.results85 rfl (by decide) (fun cx hnt hk0=>?_)
   repeat' (first|refine vS fun K hK=>?_|refine hK _ ?_;clear hK K|refine hY ?_;clear hX hY X Y|refine vB ?_|((first|refine vR tok (by rw [hnt];rfl) ?_|refine vC fun X Y hX hY=>?_|refine vK ?_|refine vT ?_|refine vF [] ?_|refine runS_c [_,_,_,_,_,_,_,_,_,_,_,_,_,_,_,_] (l21Relay_ok c o ⟨kind,chain,height,n,⟨seq,pk,src,dst,sum,till,ver⟩⟩ ok1 ok2) rfl ?_ ?_ ?_|((first|apply gR|apply gC)<;>intro hq<;>(try simp only [nT,nF,n1,n0] at hq)<;>(have hb:=hq)<;>(try simp only [dT,dF,eT,eF] at hb)<;>first|(exfalso;omega)|((try simp only [hq]);clear hq)))<;>(try simp only [go_sem,qa,qb,qc,qd,qe,qf,qg,qh,qi,qj,qk,ql,qm,qn,qo,qp,qq,qr,qs,reduceIte,reduceCtorEq])))
   all_goals first|omega|(exfalso;exact k7 ⟨by assumption,by assumption⟩)|(exfalso;exact k7 ⟨by assumption,.inl (by assumption)⟩)|(exfalso;exact k7 ⟨by assumption,.inr (by assumption)⟩)
def pl_l21Do_ok0:Plan:=(.tak 0 (.tak 1 (.tak 2 (.tak 3 (.tak 4 (.tak 5 (.tak 6 (.tak 7 (.tak 8 (.tak 9 (.tak 10 (.tak 12 (.tak 13 (.tak 14 (.tak 15 (.tak 16 (.tak 17 (.tak 19 (.all (.cons 11 (.all (.cons 18 (.all (.cons 20 (.tak 21 (.all (.cons 22 .done .nil))) .nil)) .nil)) (.cons 18 (.all (.cons 11 (.all (.cons 20 (.tak 21 (.all (.cons 22 .done .nil))) .nil)) .nil)) .nil)))))))))))))))))))))
attribute [go_sem] pl_l21Do_ok0
theorem l21Do_ok (w:Two) (ev:Event) (ok1:w.a.ok=true) (ok2:w.b.ok=true):Call Try.prog 52 [.g (worldA 0),ev.av] (worldH w 0) 17 (.o (.g (worldA 17))) (worldH (w.on ev) 17) 34:=by
 obtain ⟨kind,chain,height,n,⟨seq,pk,src,dst,sum,till,ver⟩⟩:=ev
 by_cases c1:chain=1
 · subst c1
   have e:w.on ⟨kind,1,height,n,⟨seq,pk,src,dst,sum,till,ver⟩⟩=⟨w.a.on w.b ⟨kind,1,height,n,⟨seq,pk,src,dst,sum,till,ver⟩⟩,w.b⟩:=by simp [Two.on]
   rw [e]
   have ei:In 1 1 2=true:=by decide
   refine vO tok Try.func52 rfl rfl Try.ntmps52 Try.results52 rfl (by decide) (fun cx hnt hk0=>?_)

   repeat' (first|refine vS fun K hK=>?_|refine hK _ ?_;clear hK K|refine hY ?_;clear hX hY X Y|((first|refine vR tok (by rw [hnt];rfl) ?_|refine vC fun X Y hX hY=>?_|refine vK ?_|refine vT ?_|refine vF [] ?_|refine runS_c [] (l6In_ok _ _ _) rfl ?_ ?_ ?_|(refine AWp.draw (id:=3) tok mixed pl_l21Do_ok0 [17,18] [2,3] (by kernel_rfl) (by kernel_rfl) (by rw [hnt];rfl) ?_)|(refine effS_c [_,_,_,_,_,_,_,_,_,_,_,_,_,_,_,_] (l21Chain_ok w.a w.b kind 1 height n seq pk src dst sum till ver ok1 ok2) rfl ?_ ?_ ?_))<;>(try simp only [go_sem,qa,qb,qc,qd,qe,qf,qg,qh,qi,qj,qk,ql,qm,qn,qo,qp,qq,qr,qs,reduceIte,reduceCtorEq,ei]))|refine Fits.of ?_ ?_|(refine aL ?_ (fun hp=>?_)<;>((try simp only [rowSet_fI hp,rowSet_fI2 hp]);(try simp only [rowSet_fB hp])))|refine And.intro ?_ ?_|clear hK K)
   all_goals first|omega
 by_cases c2:chain=2
 · subst c2
   have e:w.on ⟨kind,2,height,n,⟨seq,pk,src,dst,sum,till,ver⟩⟩=⟨w.a,w.b.on w.a ⟨kind,2,height,n,⟨seq,pk,src,dst,sum,till,ver⟩⟩⟩:=by simp [Two.on]
   rw [e]
   have ei:In 2 1 2=true:=by decide
   refine vO tok Try.func52 rfl rfl Try.ntmps52 Try.results52 rfl (by decide) (fun cx hnt hk0=>?_)

   repeat' (first|refine vS fun K hK=>?_|refine hK _ ?_;clear hK K|refine hY ?_;clear hX hY X Y|((first|refine vR tok (by rw [hnt];rfl) ?_|refine vC fun X Y hX hY=>?_|refine vK ?_|refine vT ?_|refine vF [] ?_|refine runS_c [] (l6In_ok _ _ _) rfl ?_ ?_ ?_|(refine AWp.draw (id:=3) tok mixed pl_l21Do_ok0 [17,18] [2,3] (by kernel_rfl) (by kernel_rfl) (by rw [hnt];rfl) ?_)|(refine effS_c [_,_,_,_,_,_,_,_,_,_,_,_,_,_,_,_] (l21Chain_ok w.b w.a kind 2 height n seq pk src dst sum till ver ok2 ok1) rfl ?_ ?_ ?_))<;>(try simp only [go_sem,qa,qb,qc,qd,qe,qf,qg,qh,qi,qj,qk,ql,qm,qn,qo,qp,qq,qr,qs,reduceIte,reduceCtorEq,ei]))|refine Fits.of ?_ ?_|(refine aL ?_ (fun hp=>?_)<;>((try simp only [rowSet_fI hp,rowSet_fI2 hp]);(try simp only [rowSet_fB hp])))|refine And.intro ?_ ?_|clear hK K)
   all_goals first|omega
 · have e:w.on ⟨kind,chain,height,n,⟨seq,pk,src,dst,sum,till,ver⟩⟩=w:=by simp [Two.on,c1,c2]
   rw [e]
   have ei:In chain 1 2=false:=by
     cases h:In chain 1 2 with
     | false=>rfl
     | true=>rw [In_iff] at h;omega
   refine vO tok Try.func52 rfl rfl Try.ntmps52 Try.results52 rfl (by decide) (fun cx hnt hk0=>?_)

   repeat' (first|refine vS fun K hK=>?_|refine hK _ ?_;clear hK K|refine hX ?_;clear hX hY X Y|((first|refine vR tok (by rw [hnt];rfl) ?_|refine vC fun X Y hX hY=>?_|refine vT ?_|refine vF [] ?_|(refine runS_c [] (l6In_ok _ _ _) rfl ?_ ?_ ?_))<;>(try simp only [go_sem,qa,qb,qc,qd,qe,qf,qg,qh,qi,qj,qk,ql,qm,qn,qo,qp,qq,qr,qs,reduceIte,reduceCtorEq,ei])))
   all_goals first|omega
theorem ChainNew_ok (id:Int) (h:In id 1 2=true):Call Try.prog 130 [I id] [] 0 (.tup [.g (chainA (Chain.new id) 0),BB true]) (chainH (Chain.new id) 0) 8:=by
 refine vO tok Try.func130 rfl rfl Try.ntmps130 Try.results130 rfl (by decide) (fun cx hnt hk0=>?_)
 repeat' (first|refine vS fun K hK=>?_|refine hK _ ?_;clear hK K|refine hY ?_;clear hX hY X Y|((first|refine vR tok (by rw [hnt];rfl) ?_|refine vC fun X Y hX hY=>?_|refine vK ?_|refine vT ?_|refine vF [] ?_|refine runS_c [] (l6In_ok _ _ _) rfl ?_ ?_ ?_|refine runS_c [] (BankNew_ok) rfl ?_ ?_ ?_|(refine runS_c [] (StateNew_ok) rfl ?_ ?_ ?_))<;>(try simp only [go_sem,qa,qb,qc,qd,qe,qf,qg,qh,qi,qj,qk,ql,qm,qn,qo,qp,qq,qr,qs,reduceIte,reduceCtorEq,h,Chain.new,Bank.new,State.new])))
theorem WorldNew_ok:Call Try.prog 109 [] [] 0 (.o (.g (worldA 0))) (worldH Two.new 0) 17:=by
 have h1:In 1 1 2=true:=by decide
 have h2:In 2 1 2=true:=by decide
 refine vO tok Try.func109 rfl rfl Try.ntmps109 Try.results109 rfl (by decide) (fun cx hnt hk0=>?_)
 repeat' (first|refine vS fun K hK=>?_|refine hK _ ?_;clear hK K|((first|refine vR tok (by rw [hnt];rfl) ?_|refine vT ?_|refine vF [] ?_|refine runS_c [] (ChainNew_ok 1 h1) rfl ?_ ?_ ?_|(refine runS_c [] (ChainNew_ok 2 h2) rfl ?_ ?_ ?_))<;>(try simp only [go_sem,qa,qb,qc,qd,qe,qf,qg,qh,qi,qj,qk,ql,qm,qn,qo,qp,qq,qr,qs,reduceIte,reduceCtorEq,Two.new])))
def jP1 (l:List Int) (es:List Event) (r:Int) (x:Nat × Two):St:=⟨[(0,.o (.c (.ptr 0 0 0 0))),(3,.o (.c (.ptr 1 0 0 0))),(4,.o (.c (.ptr 2 0 0 0))),(5,.o (.c (.sl 3 11 0 es.length))),(6,.o (I x.1))],rdH l r 0++((1,.box [.t (.v (.slice none 0 0))]) ::(2,.box (worldA 4)) ::(3,rE es) ::worldH x.2 4),21⟩
def jP2 (l:List Int) (x:Nat × Two × List Event × Int):St:=⟨[(0,.o (.c (.ptr 0 0 0 0))),(3,.o (.c (.ptr 1 0 0 0))),(4,.o (.c (.ptr 2 0 0 0))),(5,.o (.c (.sl 3 11 0 x.2.2.1.length))),(7,.o (I x.1))],rdH l x.2.2.2 0++((1,.box [.t (.v (.slice none 0 0))]) ::(2,.box (worldA 4)) ::(3,rE x.2.2.1) ::worldH x.2.1 4),21⟩
attribute [go_sem] jP1 jP2
theorem l71Play_ok (l:List Int) (p:Int) (hl:Bytes l) (h0:0≤p) (h9:p≤800000):CallX (α:=Two × List Event × Int) Try.prog 84 [.c (.ptr 0 0 0 0)] (rdH l p 0) 1 (fun x=>wOk x.1.list=true∧x.2.1.length≤60∧p≤x.2.2∧x.2.2≤p+3000) (fun x=>.tup [.c (.sl 1 11 0 x.2.1.length),.g (worldA 2)]) (fun x=>rdH l x.2.2 0++((1,rE x.2.1) ::worldH x.1 2)) 19:=by
 refine vO tok Try.func84 rfl rfl Try.ntmps84 Try.results84 rfl (by decide) (fun cx hnt hk0=>?_)
 repeat' (first|refine vS fun K hK=>?_|refine hK _ ?_;clear hK K|refine vB ?_|((first|refine vR tok (by rw [hnt];rfl) ?_|refine runS_c [] (WorldNew_ok) rfl ?_ ?_ ?_|(refine runS_at [_] (l71Open_ok l p hl h0 (by omega)) rfl ?_ ?_ (fun y hy=>?_)))<;>(try simp only [go_sem,qa,qb,qc,qd,qe,qf,qg,qh,qi,qj,qk,ql,qm,qn,qo,qp,qq,qr,qs,reduceIte,reduceCtorEq])))
 all_goals try omega
 obtain ⟨es,r⟩:=y
 obtain ⟨hy1,hy2,hy3⟩:=hy
 simp only [] at hy1 hy2 hy3
 refine AWp.loop (jP1 l es r) (fun x=>x.1≤es.length∧wOk x.2.list=true) (fun x=>es.length - x.1) (0,Two.new) ⟨Nat.zero_le _,two_new_wOk⟩ ?_ ?_
 · refine vL hk0 [] ?_;simp only [go_sem,qa,qb,qc,qd,qe,qf,qg,qh,qi,qj,qk,ql,qm,qn,qo,qp,qq,qr,qs,reduceIte,reduceCtorEq]
   all_goals simp
 rintro ⟨i,w⟩ ⟨hi,hw⟩
 simp only [] at hi hw
 have hw2:=two_on_wOk (e:=es.getD i default) hw
 obtain ⟨o1,o2,_⟩:=wOk_iff.1 hw
 simp only [go_sem,qa,qb,qc,qd,qe,qf,qg,qh,qi,qj,qk,ql,qm,qn,qo,qp,qq,qr,qs,reduceIte,reduceCtorEq]

 repeat' (first|refine vS fun K hK=>?_|refine hK _ ?_;clear hK K|refine hX ?_;clear hX hY X Y|refine hY ?_;clear hX hY X Y|refine vB ?_|((first|refine vR tok (by rw [hnt];rfl) ?_|refine vC fun X Y hX hY=>?_|refine vK ?_|refine vE ?_|refine runS_pick l hl rfl ?_ ?_ ?_ (fun x hx=>?_)|(refine AWp.draw (id:=6) tok mixed (.tak 1 (.tak 2 (.tak 3 (.tak 4 (.all (.cons 0 (.all (.cons 5 (.all (.cons 6 .done .nil)) .nil)) .nil)))))) [3] [4,5,6] (by kernel_rfl) (by kernel_rfl) (by rw [hnt];rfl) ?_)|(refine effS_c [4,5,6,7,8,9,10,11,12,13,14,15,16,17,18,19,20] (l21Do_ok w (es.getD i default) o1 o2) rfl ?_ ?_ ?_)|refine vL hk0 [] ?_|(apply gC<;>intro hq<;>(try simp only [nT,nF,n1,n0] at hq)<;>(have hb:=hq)<;>(try simp only [dT,dF,eT,eF] at hb)<;>first|(exfalso;omega)|((try simp only [hq]);clear hq)))<;>(try simp only [go_sem,qa,qb,qc,qd,qe,qf,qg,qh,qi,qj,qk,ql,qm,qn,qo,qp,qq,qr,qs,reduceIte,reduceCtorEq]))|(refine ⟨(i+1,w.on (es.getD i default)),?_,?_,?_⟩)|refine Fits.of ?_ ?_|(refine aL ?_ (fun hp=>?_)<;>((try simp only [rowSet_fI hp,rowSet_fI2 hp]);(try simp only [rowSet_fB hp])))|refine aE ?_ fun hp=>?_|refine aC ?_ fun hp=>?_|refine And.intro ?_ ?_|clear hK K)
 all_goals try (first|omega|(simp only [dA,dB,dC];omega))
 all_goals try (exact ⟨by dsimp only;omega,hw2⟩)
 obtain ⟨n0,rfl⟩:∃ n:Nat,x=n:=⟨x.toNat,by omega⟩
 refine AWp.loop (jP2 l) (fun x=>x.1≤48∧wOk x.2.1.list=true∧x.2.2.1.length+x.1≤58∧p≤x.2.2.2∧x.2.2.2+40 * x.1≤p+2000) (fun x=>x.1) (n0,w,es,r+1) ⟨by dsimp only;omega,hw,by dsimp only;omega,by dsimp only;omega,by dsimp only;omega⟩ ?_ ?_
 · refine vL hk0 [] ?_;simp only [go_sem,qa,qb,qc,qd,qe,qf,qg,qh,qi,qj,qk,ql,qm,qn,qo,qp,qq,qr,qs,reduceIte,reduceCtorEq]
   all_goals first|rfl|simp|skip
 clear hy1 hy2 hy3 hi hw hw2 o1 o2
 rintro ⟨n,w,es,r⟩ ⟨g1,hw,g2,g3,g4⟩
 simp only [] at g1 hw g2 g3 g4
 have hw2:=fun e=>two_on_wOk (e:=e) hw
 obtain ⟨o1,o2,_⟩:=wOk_iff.1 hw
 simp only [go_sem,qa,qb,qc,qd,qe,qf,qg,qh,qi,qj,qk,ql,qm,qn,qo,qp,qq,qr,qs,reduceIte,reduceCtorEq]

 repeat' (first|refine vS fun K hK=>?_|refine hK _ ?_;clear hK K|refine hX ?_;clear hX hY X Y|refine hY ?_;clear hX hY X Y|refine vB ?_|((first|refine vR tok (by rw [hnt];rfl) ?_|refine vC fun X Y hX hY=>?_|refine vK ?_|refine vE ?_|refine vT ?_|refine runS_c [4,5,6,7,8,9,10,11,12,13,14,15,16,17,18,19,20] (l21Do_ok w y.1 o1 o2) rfl ?_ ?_ ?_|(refine runS_at [0,4,5,6,7,8,9,10,11,12,13,14,15,16,17,18,19,20] (l71Event_ok l r w hl (by omega) (by omega) hw) rfl ?_ ?_ (fun y hy=>?_))|(refine AWp.draw (id:=13) tok mixed (.tak 0 (.tak 1 (.tak 2 (.all (.cons 3 .done .nil))))) [2] [3,4,5] (by kernel_rfl) (by kernel_rfl) (by rw [hnt];rfl) ?_)|refine vL hk0 [] ?_|(apply gC<;>intro hq<;>(try simp only [nT,nF,n1,n0] at hq)<;>(have hb:=hq)<;>(try simp only [dT,dF,eT,eF] at hb)<;>first|(exfalso;omega)|((try simp only [hq]);clear hq)))<;>(try simp only [go_sem,qa,qb,qc,qd,qe,qf,qg,qh,qi,qj,qk,ql,qm,qn,qo,qp,qq,qr,qs,reduceIte,reduceCtorEq]))|(refine ⟨(n - 1,w.on y.1,es++(.cons y.1 .nil),y.2),?_,?_,?_⟩)|refine Fits.of ?_ ?_|refine aE ?_ fun hp=>?_|refine And.intro ?_ ?_|clear hK K)
 all_goals try (first|omega|(simp only [dA,dB,dC];omega))
 all_goals try (
   refine ⟨(w,es,r),⟨hw,by dsimp only;omega,by dsimp only;omega,by dsimp only;omega⟩,?_⟩
   refine vF [] ?_
   simp only [go_sem,qa,qb,qc,qd,qe,qf,qg,qh,qi,qj,qk,ql,qm,qn,qo,qp,qq,qr,qs,reduceIte,reduceCtorEq]
   done)
 all_goals try (exact ⟨by dsimp only;omega,hw2 _,by simp;omega,by dsimp only;omega,by dsimp only;omega⟩)
 all_goals try exact hw2 _
 all_goals (simp only [List.length_append,List.length_cons,List.length_nil] at *;omega)
end Go.Hw
