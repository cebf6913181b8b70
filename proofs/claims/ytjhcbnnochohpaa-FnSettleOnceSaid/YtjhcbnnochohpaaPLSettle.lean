/- What is proved: the walk of the law FnSettleOnce: whatever the two codes, it says true. Condition: the cells of the first code are bytes. -/
import Derived.Test.YtjhcbnnochohpaaPI2
set_option linter.all false
set_option maxRecDepth 100000
set_option maxHeartbeats 16000000
open Int renaming reduceToNat→qk,reduceAdd→ql,reduceSub→qm,reduceNeg→qn,reduceLT→qo,reduceLE→qp,reduceEq→qq,reduceBEq→qr,reduceBNe→qs
open Nat renaming reduceDiv→qa,reduceMod→qb,reduceAdd→qc,reduceMul→qd,reduceSub→qe,reduceLeDiff→qf,reduceBEq→qg,reduceEqDiff→qh,reduceBeqDiff→qi,reduceLT→qj
open Go.Hw renaming runG_split→gR,condG_split→gC,takG_split→gT,effG_split→gE
open Go.Hw.AWp renaming region→vR,seq→vS,cond'→vC,block→vB,skip→vK,ret→vT,exit→vE
open Go.Hw.Fin renaming auto→vF
open Go.Hw.SLe renaming auto→vL
open Go.Hw.CallX renaming of→vO
namespace Go.Hw
open Go.Proofs
def pl_AWp0:Plan:=(.tak 0 (.tak 1 (.tak 2 (.tak 3 (.tak 4 (.tak 5 (.tak 6 (.tak 7 (.tak 8 (.tak 9 (.tak 10 (.tak 11 (.all (.cons 12 (.tak 13 (.tak 14 (.tak 15 (.all (.cons 16 (.all (.cons 17 (.tak 18 .done) .nil)) .nil))))) (.cons 16 (.all (.cons 12 (.tak 13 (.tak 14 (.tak 15 (.all (.cons 17 (.tak 18 .done) .nil))))) .nil)) .nil)))))))))))))))
attribute [go_sem] pl_AWp0
theorem AWp.at11 {P:Program} {c:Ctx} {Q:Exit→St→Prop} {s:St} {ops:Array Oper} {b:Bool} {y:Code} (J:St) (h:SLe c s J) (hy:AWp P c (.seq (.region 11 ops b) y) Q J):AWp P c (.seq (.region 11 ops b) y) Q s:=AWp.le h hy
def jS (c x:Chain) (s o:State) (seq:Int):St:=⟨[(5,.o (.c (.ptr 0 0 0 0))),(6,.o (.c (.ptr 1 0 0 0))),(8,.o (I seq)),(11,.o (.c (.ptr 19 0 0 0))),(13,.o (.c (.ptr 20 0 0 0)))],[(0,c.box),(1,s.box),(19,x.box),(20,o.box)],21⟩
attribute [go_sem] jS
theorem FnSettleOnce_ok (l more:List Int) (hb:∀ i,0≤l.getD i 0∧l.getD i 0≤255) (h1:(l.length:Int)≤1048576) (h2:(more.length:Int)≤1048576) :
   Call Try.prog 3 [.c (.t (bytesT l)),.c (.t (bytesT more))] [] 0 (.o (BB true)) [] 0:=by
 have e1:¬ (1048576:Int) < l.length:=by omega
 have e2:¬ (1048576:Int) < more.length:=by omega
 refine vO tok Try.func3 rfl rfl Try.ntmps3 Try.results3 rfl (by decide) (fun cx hnt hk0=>?_)
 repeat' (first|refine vS fun K hK=>?_|refine hK _ ?_;clear hK K|refine hY ?_;clear hX hY X Y|((first|refine vR tok (by rw [hnt];rfl) ?_|refine vC fun X Y hX hY=>?_|refine vK ?_|(refine runS_at [] (DrawRelayLate_ok l hb h1) rfl ?_ ?_ (fun y hy=>?_)))<;>(try simp only [go_sem,qa,qb,qc,qd,qe,qf,qg,qh,qi,qj,qk,ql,qm,qn,qo,qp,qq,qr,qs,reduceIte,reduceCtorEq,e1,e2])))
 all_goals try omega
 obtain ⟨⟨c,s⟩,h,seq⟩:=y
 obtain ⟨nc,ns⟩:=hy
 dsimp only at nc ns
 have sc:=near_small nc
 have ss:=nearS_small ns
 cases hR:relayB c s h
 · have a1:=sRelayLate_no c s h seq sc ss hR
   have a2:=iRelayLate_no c s h seq sc ss hR
   have a3:=lwChain_ok default default default_fit9
   rw [decide_eq_true (rfl:(default:Chain)=default)] at a3
   repeat' (first|refine vS fun K hK=>?_|refine hK _ ?_;clear hK K|refine hX ?_;clear hX hY X Y|((first|refine vR tok (by rw [hnt];rfl) ?_|refine vC fun X Y hX hY=>?_|refine vT ?_|refine vF [] ?_|refine runS_c [] (a1) rfl ?_ ?_ ?_|refine runS_c [] (a2) rfl ?_ ?_ ?_|refine runS_c [] (a3) rfl ?_ ?_ ?_|(apply gR<;>intro hq<;>(try simp only [nT,nF,n1,n0] at hq)<;>(have hb:=hq)<;>(try simp only [dT,dF,eT,eF] at hb)<;>first|(exfalso;omega)|((try simp only [hq]);clear hq)))<;>(try simp only [go_sem,qa,qb,qc,qd,qe,qf,qg,qh,qi,qj,qk,ql,qm,qn,qo,qp,qq,qr,qs,reduceIte,reduceCtorEq])))
   all_goals first|omega
 obtain ⟨hc,hs,hh⟩:=relayB_iff.1 hR
 have a1:=sRelayLate_yes c s h seq hc hs hh sc ss
 have a2:=iRelayLate_yes c s h seq hc hs hh sc ss
 have hx:=late_ok (s:=s) (x:=h) (seq:=seq) hc
 have a3:=lwChain_ok (c.late s h seq) (c.late s h seq) (near_fit (near_ok hx))
 rw [decide_eq_true (rfl:c.late s h seq=c.late s h seq)] at a3
 cases hB:c.lateB s h seq
 · rw [hB] at a1 a2
   repeat' (first|refine vS fun K hK=>?_|refine hK _ ?_;clear hK K|refine hX ?_;clear hX hY X Y|((first|refine vR tok (by rw [hnt];rfl) ?_|refine vC fun X Y hX hY=>?_|refine vT ?_|refine vF [] ?_|refine runS_c [] (a1) rfl ?_ ?_ ?_|refine runS_c [] (a2) rfl ?_ ?_ ?_|refine runS_v [] (a3) ?_ ?_ ?_ ?_ ?_|(apply gR<;>intro hq<;>(try simp only [nT,nF,n1,n0] at hq)<;>(have hb:=hq)<;>(try simp only [dT,dF,eT,eF] at hb)<;>first|(exfalso;omega)|((try simp only [hq]);clear hq)))<;>(try simp only [go_sem,qa,qb,qc,qd,qe,qf,qg,qh,qi,qj,qk,ql,qm,qn,qo,qp,qq,qr,qs,reduceIte,reduceCtorEq])))
   all_goals first|omega
 rw [hB] at a1 a2
 obtain ⟨r1,r2,r3,r4,r5,r6,r7,r8,r9⟩:=state_ok hs
 obtain ⟨q1,q2,q3,q4,q5,q6⟩:=chain_ok hc
 obtain ⟨u1,u2,u3,u4,u5,u6,u7,u8,u9⟩:=state_ok q3
 have hin:1≤seq∧seq≤c.state.sent.length:=by
   unfold Chain.lateB Chain.mine at hB
   simp only [Bool.and_eq_true,In_iff] at hB
   exact hB.1.1
 have hm:=late_then hc hB
 have sx:=near_small (near_ok hx)
 have h2m:0≤(more.length:Int) % 2∧(more.length:Int) % 2 < 2:=⟨Int.emod_nonneg _ (by decide),Int.emod_lt_of_pos _ (by decide)⟩
 generalize hg:(1:Int)+(more.length:Int) % 2=g
 have hg2:0≤g∧g≤2:=by omega
 have ho:=tellIt_ok hs (seq:=seq) hg2
 have b1:=iRelayTell_yes (c.late s h seq) (s.tellIt seq g) seq hx ho sx (nearS_small (nearS_ok ho))
 have t1:(c.late s h seq).tellB (s.tellIt seq g) seq=false:=by unfold Chain.tellB;rw [hm];rfl
 rw [t1] at b1
 have b2:=iRelayLate_yes (c.late s h seq) s 90 seq hx hs ⟨by decide,by decide⟩ sx ss
 have t2:(c.late s h seq).lateB s 90 seq=false:=by unfold Chain.lateB;rw [hm];rfl
 rw [t2] at b2
 have es:(c.state.sent.getD (seq - 1).toNat default).till=(c.sentAt seq).till:=rfl
 have t3:c.lateB s ((c.sentAt seq).till - 1) seq=false:=by
   unfold Chain.lateB
   have:decide ((c.sentAt seq).till≤(c.sentAt seq).till - 1)=false:=decide_eq_false (by omega)
   rw [this,Bool.false_and,Bool.and_false]
 have tl:1≤(c.sentAt seq).till∧(c.sentAt seq).till≤1000:=by
   have h3:=(sentOk_iff (u7 (seq - 1).toNat (by omega))).1
   have h4:(c.sentAt seq).ok=true:=h3
   have:=packet_iff.1 h4
   omega
 generalize hG:(c.late s h seq).tell (s.tellIt seq g) seq=G1 at b1
 generalize hG2:(c.late s h seq).late s 90 seq=G2 at b2
 by_cases ht:1≤(c.sentAt seq).till - 1∧(c.sentAt seq).till - 1≤90
 · have b3:=iRelayLate_yes c s ((c.sentAt seq).till - 1) seq hc hs ht sc ss
   rw [t3] at b3
   generalize hG3:c.late s ((c.sentAt seq).till - 1) seq=G3 at b3

   repeat' (first|(refine AWp.at11 (jS c (c.late s h seq) s (s.tellIt seq g) seq) ?_ (AWp.seq fun K hK=>?_))|refine vS fun K hK=>?_|refine hK _ ?_;clear hK K|refine hX ?_;clear hX hY X Y|refine hY ?_;clear hX hY X Y|((first|refine vR tok (by rw [hnt];rfl) ?_|refine vC fun X Y hX hY=>?_|refine vK ?_|refine vT ?_|refine vF [] ?_|refine runS_c [] (a1) rfl ?_ ?_ ?_|refine runS_c [] (a2) rfl ?_ ?_ ?_|refine runS_c [] (b1) rfl ?_ ?_ ?_|refine runS_c [] (b2) rfl ?_ ?_ ?_|refine runS_v [] (a3) ?_ ?_ ?_ ?_ ?_|(refine AWp.draw (id:=13) tok mixed pl_AWp0 [0,1] [5,6,8] (by kernel_rfl) (by kernel_rfl) (by rw [hnt];rfl) ?_)|refine effS_c [] (b3) rfl ?_ ?_ ?_|(apply gR<;>intro hq<;>(try simp only [nT,nF,n1,n0] at hq)<;>(have hb:=hq)<;>(try simp only [dT,dF,eT,eF] at hb)<;>first|(exfalso;omega)|((try simp only [hq]);clear hq)))<;>(try simp only [go_sem,qa,qb,qc,qd,qe,qf,qg,qh,qi,qj,qk,ql,qm,qn,qo,qp,qq,qr,qs,reduceIte,reduceCtorEq,hg,es,State.tellIt,List.length_set]))|refine Fits.of ?_ ?_|(refine aL ?_ (fun hp=>?_)<;>((try simp only [rowSet_fI hp,rowSet_fI2 hp]);(try simp only [rowSet_fB hp])))|refine aE ?_ fun hp=>?_|refine aC ?_ fun hp=>?_|refine And.intro ?_ ?_|clear hK K)
   all_goals try omega
   all_goals try (
     refine vL hk0 [11,12,13,14,15,16,17,18,22] ?_
     simp only [go_sem,qa,qb,qc,qd,qe,qf,qg,qh,qi,qj,qk,ql,qm,qn,qo,qp,qq,qr,qs,reduceIte,reduceCtorEq,State.tellIt,List.length_set]
     done)
 · have hR3:relayB c s ((c.sentAt seq).till - 1)=false:=by
     cases e:relayB c s ((c.sentAt seq).till - 1)
     · rfl
     · exact absurd (relayB_iff.1 e).2.2 ht
   have b3:=iRelayLate_no c s ((c.sentAt seq).till - 1) seq sc ss hR3

   repeat' (first|(refine AWp.at11 (jS c (c.late s h seq) s (s.tellIt seq g) seq) ?_ (AWp.seq fun K hK=>?_))|refine vS fun K hK=>?_|refine hK _ ?_;clear hK K|refine hX ?_;clear hX hY X Y|refine hY ?_;clear hX hY X Y|((first|refine vR tok (by rw [hnt];rfl) ?_|refine vC fun X Y hX hY=>?_|refine vK ?_|refine vT ?_|refine vF [] ?_|refine runS_c [] (a1) rfl ?_ ?_ ?_|refine runS_c [] (a2) rfl ?_ ?_ ?_|refine runS_c [] (b1) rfl ?_ ?_ ?_|refine runS_c [] (b2) rfl ?_ ?_ ?_|refine runS_v [] (a3) ?_ ?_ ?_ ?_ ?_|(refine AWp.draw (id:=13) tok mixed pl_AWp0 [0,1] [5,6,8] (by kernel_rfl) (by kernel_rfl) (by rw [hnt];rfl) ?_)|refine effS_c [] (b3) rfl ?_ ?_ ?_|(apply gR<;>intro hq<;>(try simp only [nT,nF,n1,n0] at hq)<;>(have hb:=hq)<;>(try simp only [dT,dF,eT,eF] at hb)<;>first|(exfalso;omega)|((try simp only [hq]);clear hq)))<;>(try simp only [go_sem,qa,qb,qc,qd,qe,qf,qg,qh,qi,qj,qk,ql,qm,qn,qo,qp,qq,qr,qs,reduceIte,reduceCtorEq,hg,es,State.tellIt,List.length_set]))|refine Fits.of ?_ ?_|(refine aL ?_ (fun hp=>?_)<;>((try simp only [rowSet_fI hp,rowSet_fI2 hp]);(try simp only [rowSet_fB hp])))|refine aE ?_ fun hp=>?_|refine aC ?_ fun hp=>?_|refine And.intro ?_ ?_|clear hK K)
   all_goals try omega
   all_goals try (
     refine vL hk0 [11,12,13,14,15,16,17,18,22] ?_
     simp only [go_sem,qa,qb,qc,qd,qe,qf,qg,qh,qi,qj,qk,ql,qm,qn,qo,qp,qq,qr,qs,reduceIte,reduceCtorEq,State.tellIt,List.length_set]
     done)
theorem FnSettleOnce_long1 (l more:List Int) (e1:(1048576:Int) < l.length) :
   Call Try.prog 3 [.c (.t (bytesT l)),.c (.t (bytesT more))] [] 0 (.o (BB true)) [] 0:=by
 refine vO tok Try.func3 rfl rfl Try.ntmps3 Try.results3 rfl (by decide) (fun cx hnt hk0=>?_)
 repeat' (first|refine vS fun K hK=>?_|refine hK _ ?_;clear hK K|refine hX ?_;clear hX hY X Y|((first|refine vR tok (by rw [hnt];rfl) ?_|refine vC fun X Y hX hY=>?_|refine vT ?_|(refine vF [] ?_))<;>(try simp only [go_sem,qa,qb,qc,qd,qe,qf,qg,qh,qi,qj,qk,ql,qm,qn,qo,qp,qq,qr,qs,reduceIte,reduceCtorEq,e1])))
 all_goals first|omega
theorem FnSettleOnce_long2 (l more:List Int) (e1:¬ (1048576:Int) < l.length) (e2:(1048576:Int) < more.length) :
   Call Try.prog 3 [.c (.t (bytesT l)),.c (.t (bytesT more))] [] 0 (.o (BB true)) [] 0:=by
 refine vO tok Try.func3 rfl rfl Try.ntmps3 Try.results3 rfl (by decide) (fun cx hnt hk0=>?_)
 repeat' (first|refine vS fun K hK=>?_|refine hK _ ?_;clear hK K|refine hX ?_;clear hX hY X Y|((first|refine vR tok (by rw [hnt];rfl) ?_|refine vC fun X Y hX hY=>?_|refine vT ?_|(refine vF [] ?_))<;>(try simp only [go_sem,qa,qb,qc,qd,qe,qf,qg,qh,qi,qj,qk,ql,qm,qn,qo,qp,qq,qr,qs,reduceIte,reduceCtorEq,e1,e2])))
 all_goals first|omega
theorem FnSettleOnce_all (l more:List Int) (hb:∀ i,0≤l.getD i 0∧l.getD i 0≤255) :
   Call Try.prog 3 [.c (.t (bytesT l)),.c (.t (bytesT more))] [] 0 (.o (BB true)) [] 0:=by
 by_cases h1:(l.length:Int)≤1048576
 · by_cases h2:(more.length:Int)≤1048576
   · exact FnSettleOnce_ok l more hb h1 h2
   · exact FnSettleOnce_long2 l more (by omega) (by omega)
 · exact FnSettleOnce_long1 l more (by omega)
end Go.Hw
