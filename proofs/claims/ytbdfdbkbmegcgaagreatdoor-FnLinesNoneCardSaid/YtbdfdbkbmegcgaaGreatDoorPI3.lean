/- What is proved here: parts of the walk of the law and of its plain side; no condition but those that each theorem states. -/
import Derived.Test.YtbdfdbkbmegcgaaGreatDoorPD1
import Derived.Test.YtbdfdbkbmegcgaaGreatDoorPI1
import Derived.Test.YtbdfdbkbmegcgaaGreatDoorPI2
import Derived.Ground.Names2Prog
import Derived.Shelf.Slices.SearchI
import Derived.Shelf.Slices.Empties
import Derived.Shelf.Spec.SlicesInsert
import Derived.Shelf.Spec.SlicesInsertGrow
import Derived.Below
set_option linter.all false
set_option maxRecDepth 100000
set_option maxHeartbeats 16000000
open Int renaming reduceToNat→qk,reduceAdd→ql,reduceSub→qm,reduceNeg→qn,reduceLT→qo,reduceLE→qp,reduceEq→qq,reduceBEq→qr,reduceBNe→qs
open Nat renaming reduceDiv→qa,reduceMod→qb,reduceAdd→qc,reduceMul→qd,reduceSub→qe,reduceLeDiff→qf,reduceBEq→qg,reduceEqDiff→qh,reduceBeqDiff→qi,reduceLT→qj
open Go.Hw renaming runG_split→gR,condG_split→gC,takG_split→gT,effG_split→gE
open Go.Hw.AWp renaming region→vR,seq→vS,cond'→vC,block→vB,skip→vK,ret→vT,exit→vE
open Go.Hw.Fin renaming auto→vF
open Go.Hw.SLe renaming auto→vL
open Go.Hw.CallX renaming of→vO
namespace Go.Hw
open Go.Proofs
def pl_marksT_drop0:Plan:=(.tak 0 (.tak 1 (.tak 2 (.all (.cons 3 (.tak 4 (.tak 5 (.tak 6 (.tak 7 (.all (.cons 8 (.tak 9 (.tak 10 (.tak 11 (.tak 12 (.tak 13 (.tak 14 (.tak 15 (.tak 16 (.tak 17 (.tak 18 (.tak 19 (.tak 20 (.tak 21 (.tak 22 (.tak 23 (.tak 24 (.tak 25 (.tak 26 (.tak 27 (.tak 28 .done)))))))))))))))))))) .nil)))))) .nil)))))
attribute [go_sem] pl_marksT_drop0
def pl_marksT_drop1:Plan:=(.tak 0 (.tak 1 (.tak 2 (.tak 3 (.tak 4 (.tak 5 (.tak 6 (.tak 7 (.tak 8 (.tak 9 (.all (.cons 10 (.tak 11 (.tak 12 (.tak 13 (.all (.cons 14 (.all (.cons 15 (.tak 16 .done) .nil)) .nil))))) (.cons 14 (.all (.cons 10 (.tak 11 (.tak 12 (.tak 13 (.all (.cons 15 (.tak 16 .done) .nil))))) .nil)) .nil)))))))))))))
attribute [go_sem] pl_marksT_drop1
theorem marksT_drop (r:List State) (k:Nat) (h:k < r.length):marksT (r.drop k)=.ptr 8 (markF (r.getD k default) (r.drop (k+1))):=by
 rw [List.drop_eq_getElem_cons h,marksT_cons]
 simp [List.getD,h]
def proofA (s:State) (h:Int):A1:=.g [.t (s.tv 0),.t (s.tv 1),.t (s.tv 2),.t (s.tv 3),.t (s.tv 4),.t (s.tv 5),.t (s.tv 6),.t (.v (.int .i64 h))]
attribute [go_sem] proofA
theorem at_yes (c:Chain) (n:Int) (h1:1≤n) (h2:n≤c.past.length) (hp:(c.past.length:Int) < 1000):Call Tryz.prog 99 [.c (.ptr 0 0 0 0),I n] (linkH c 0 1) 8 (.tup [(c.at n).av,BB true]) (linkH c 0 1) 8:=by
 have e1:c.past.reverse.getD (c.past.length - n.toNat) default=c.at n:=by
   unfold Chain.at
   simp only [List.getD]
   rw [List.getElem?_reverse (by omega)]
   congr 2;omega
 refine vO tok Tryz.func99 rfl rfl Tryz.ntmps99 Tryz.results99 rfl (by decide) (fun cx hnt hk0=>?_)
 repeat' (first|refine vS fun K hK=>?_|refine hK _ ?_;clear hK K|refine hY ?_;clear hX hY X Y|refine vB ?_|((first|refine vR tok (by rw [hnt];rfl) ?_|refine vC fun X Y hX hY=>?_|refine vK ?_|((first|apply gR|apply gC)<;>intro hq<;>(try simp only [nT,nF,n1,n0] at hq)<;>(have hb:=hq)<;>(try simp only [dT,dF,eT,eF] at hb)<;>first|(exfalso;omega)|((try simp only [hq]);clear hq)))<;>(try simp only [go_sem,qa,qb,qc,qd,qe,qf,qg,qh,qi,qj,qk,ql,qm,qn,qo,qp,qq,qr,qs,reduceIte,reduceCtorEq]))|refine Fits.of ?_ ?_|refine And.intro ?_ ?_|clear hK K)
 all_goals try omega
 refine AWp.loop (fun k:Nat=>⟨[(4,.o (.c (.ptr 8 0 0 0))),(6,.o (.c (.t (marksT (c.past.reverse.drop k))))),(27,.o (I (c.past.length - n))),(28,.o (I k))],(8,.box [ci 0,ci 0,ci 0,.t (.v (.slice none 0 0)),.t (.v (.slice none 0 0)),.t (.v (.slice none 0 0)),.t (.v (.slice none 0 0))]) ::linkH c 0 1,9⟩) (fun k=>(k:Int)≤c.past.length - n) (fun k=>c.past.length - k) 0 (by omega) ?_ ?_
 · refine vL hk0 [] ?_;simp only [go_sem,qa,qb,qc,qd,qe,qf,qg,qh,qi,qj,qk,ql,qm,qn,qo,qp,qq,qr,qs,reduceIte,reduceCtorEq,List.drop_zero]
   rfl
 intro k hk
 have em:=marksT_drop c.past.reverse k (by rw [List.length_reverse];omega)
 by_cases hlt:(k:Int) < c.past.length - n
 · repeat' (first|refine vS fun K hK=>?_|refine hK _ ?_;clear hK K|refine hX ?_;clear hX hY X Y|refine vB ?_|((first|refine vR tok (by rw [hnt];rfl) ?_|refine vC fun X Y hX hY=>?_|refine vK ?_|refine vL hk0 [] ?_|(apply gC<;>intro hq<;>(try simp only [nT,nF,n1,n0] at hq)<;>(have hb:=hq)<;>(try simp only [dT,dF,eT,eF] at hb)<;>first|(exfalso;omega)|((try simp only [hq]);clear hq)))<;>(try simp only [go_sem,qa,qb,qc,qd,qe,qf,qg,qh,qi,qj,qk,ql,qm,qn,qo,qp,qq,qr,qs,reduceIte,reduceCtorEq,em]))|refine ⟨k+1,?_,?_,?_⟩|refine Fits.of ?_ ?_|refine And.intro ?_ ?_|clear hK K)
   all_goals try (first|omega|(simp only [dA,dB,dC];omega))
 · have ek:k=c.past.length - n.toNat:=by omega
   have e2:c.past.reverse.getD k default=c.at n:=by rw [ek];exact e1
   repeat' (first|refine vS fun K hK=>?_|refine hK _ ?_;clear hK K|refine hY ?_;clear hX hY X Y|((first|refine vR tok (by rw [hnt];rfl) ?_|refine vC fun X Y hX hY=>?_|refine vE ?_|refine vT ?_|refine vF [] ?_|(apply gC<;>intro hq<;>(try simp only [nT,nF,n1,n0] at hq)<;>(have hb:=hq)<;>(try simp only [dT,dF,eT,eF] at hb)<;>first|(exfalso;omega)|((try simp only [hq]);clear hq)))<;>(try simp only [go_sem,qa,qb,qc,qd,qe,qf,qg,qh,qi,qj,qk,ql,qm,qn,qo,qp,qq,qr,qs,reduceIte,reduceCtorEq,em,e2]))|clear hK K)
   all_goals try omega
theorem mayGet_ok (c:Chain) (s:State) (h:Int) (p:Packet) (hc:c.state.ok=true) (hs:s.ok=true) (hp:(c.past.length:Int) < 1000):Call Tryz.prog 135 [.c (.ptr 0 0 0 0),proofA s h,p.av] (linkH c 0 1) 8 (.o (BB (c.getB s p))) (linkH c 0 1) 8:=by
 obtain ⟨r1,r2,r3,r4,r5,r6,r7,r8,r9⟩:=state_ok hc
 obtain ⟨u1,u2,u3,u4,u5,u6,u7,u8,u9⟩:=state_ok hs
 unfold Chain.getB
 by_cases hw:3≤c.state.way
 · cases hb0:s.hasB p
   · refine vO tok Tryz.func135 rfl rfl Tryz.ntmps135 Tryz.results135 rfl (by decide) (fun cx hnt hk0=>?_)

     repeat' (first|refine vS fun K hK=>?_|refine hK _ ?_;clear hK K|refine hY ?_;clear hX hY X Y|((first|refine vR tok (by rw [hnt];rfl) ?_|refine vC fun X Y hX hY=>?_|refine vK ?_|refine vT ?_|refine vF [] ?_|(refine AWp.draw (id:=4) tok mixed pl_marksT_drop0 [0,8,9,10] [0,4,5,7] (by kernel_rfl) (by kernel_rfl) (by rw [hnt];rfl) ?_)|refine effS_c [] (StateHas_yes s p hs) rfl ?_ ?_ ?_|((first|apply gR|apply gC)<;>intro hq<;>(try simp only [nT,nF,n1,n0] at hq)<;>(have hb:=hq)<;>(try simp only [dT,dF,eT,eF] at hb)<;>first|(exfalso;omega)|((try simp only [hq]);clear hq)))<;>(try simp only [go_sem,qa,qb,qc,qd,qe,qf,qg,qh,qi,qj,qk,ql,qm,qn,qo,qp,qq,qr,qs,reduceIte,reduceCtorEq,hb0])))
     all_goals try omega
     all_goals simp
   · have hi:1≤p.seq∧p.seq≤8:=by
       simp only [State.hasB,Bool.and_eq_true,In_iff] at hb0
       omega
     refine vO tok Tryz.func135 rfl rfl Tryz.ntmps135 Tryz.results135 rfl (by decide) (fun cx hnt hk0=>?_)

     repeat' (first|refine vS fun K hK=>?_|refine hK _ ?_;clear hK K|refine hY ?_;clear hX hY X Y|((first|refine vR tok (by rw [hnt];rfl) ?_|refine vC fun X Y hX hY=>?_|refine vK ?_|refine vT ?_|refine vF [] ?_|(refine AWp.draw (id:=4) tok mixed pl_marksT_drop0 [0,8,9,10] [0,4,5,7] (by kernel_rfl) (by kernel_rfl) (by rw [hnt];rfl) ?_)|refine effS_c [] (StateHas_yes s p hs) rfl ?_ ?_ ?_|refine effS_v [] (StateGot_yes c.state p.seq hc hi) ?_ ?_ ?_ ?_ ?_|((first|apply gR|apply gC|apply gT)<;>intro hq<;>(try simp only [nT,nF,n1,n0] at hq)<;>(have hb:=hq)<;>(try simp only [dT,dF,eT,eF] at hb)<;>first|(exfalso;omega)|((try simp only [hq]);clear hq)))<;>(try simp only [go_sem,qa,qb,qc,qd,qe,qf,qg,qh,qi,qj,qk,ql,qm,qn,qo,qp,qq,qr,qs,reduceIte,reduceCtorEq,hb0]))|refine Fits.of ?_ ?_|refine And.intro ?_ ?_|clear hK K)
     all_goals try omega
     all_goals (rw [Bool.eq_iff_iff];simp<;>omega)
 · refine vO tok Tryz.func135 rfl rfl Tryz.ntmps135 Tryz.results135 rfl (by decide) (fun cx hnt hk0=>?_)
   repeat' (first|refine vS fun K hK=>?_|refine hK _ ?_;clear hK K|refine hX ?_;clear hX hY X Y|((first|refine vR tok (by rw [hnt];rfl) ?_|refine vC fun X Y hX hY=>?_|refine vT ?_|refine vF [] ?_|((first|apply gR|apply gC)<;>intro hq<;>(try simp only [nT,nF,n1,n0] at hq)<;>(have hb:=hq)<;>(try simp only [dT,dF,eT,eF] at hb)<;>first|(exfalso;omega)|((try simp only [hq]);clear hq)))<;>(try simp only [go_sem,qa,qb,qc,qd,qe,qf,qg,qh,qi,qj,qk,ql,qm,qn,qo,qp,qq,qr,qs,reduceIte,reduceCtorEq]))|clear hK K)
   all_goals try omega
   all_goals (rw [Bool.eq_iff_iff];simp<;>omega)
theorem refund_ok (c:Chain) (seq:Int) (hb1:c.bank.ok=true) (h1:1≤seq∧seq≤c.state.sent.length) (h2:c.state.back.length=c.state.sent.length) (h3:c.state.sent.length≤8) (hp:(c.sentAt seq).ok=true) :
   Call Tryz.prog 139 [.c (.ptr 0 0 0 0),I seq] (linkH c 0 1) 8 (.tup []) (linkH { c with bank:=c.bank.refund (c.sentAt seq),state:={ c.state with back:=c.state.back.set (seq - 1).toNat true } } 0 8) 15:=by
 obtain ⟨a1,a2,a3,a4,a5,a6,a7⟩:=packet_iff.1 hp
 obtain ⟨q1,q2,q3,q4,q5⟩:=bank_ok hb1
 have q6:=parts_len q1
 have q7:=parts_len q2
 have q8:=parts_all q1
 have hg:c.bank.giveB (c.sentAt seq).kind (c.sentAt seq).src (c.sentAt seq).sum=c.bank.backB (c.sentAt seq).kind (c.sentAt seq).src (c.sentAt seq).sum:=by
   unfold Bank.giveB
   rw [hb1,In_iff.2 a2,In_iff.2 a3,decide_eq_true (show 0≤(c.sentAt seq).sum by omega),decide_eq_true (show (c.sentAt seq).sum≤30 by omega)]
   rfl
 unfold Bank.refund Bank.back
 have es:c.state.sent.getD (seq - 1).toNat default=c.sentAt seq:=rfl
 cases hB:c.bank.backB (c.sentAt seq).kind (c.sentAt seq).src (c.sentAt seq).sum
 · rw [hB] at hg
   refine vO tok Tryz.func139 rfl rfl Tryz.ntmps139 Tryz.results139 rfl (by decide) (fun cx hnt hk0=>?_)

   repeat' (first|refine vS fun K hK=>?_|refine hK _ ?_;clear hK K|refine hY ?_;clear hX hY X Y|((first|refine vR tok (by rw [hnt];rfl) ?_|refine vC fun X Y hX hY=>?_|refine vK ?_|refine vF [] ?_|(refine AWp.draw (id:=2) tok mixed pl_marksT_drop1 [0,8] [0,4] (by kernel_rfl) (by kernel_rfl) (by rw [hnt];rfl) ?_)|(refine effS_v [] (iBankBack_no c.bank _ _ _ (by omega) (by omega) (by omega) hg) ?_ ?_ ?_ ?_ ?_))<;>(try simp only [go_sem,qa,qb,qc,qd,qe,qf,qg,qh,qi,qj,qk,ql,qm,qn,qo,qp,qq,qr,qs,reduceIte,reduceCtorEq,es,Bool.false_eq_true,if_false]))|refine Fits.of ?_ ?_|(refine aL ?_ (fun hp=>?_)<;>((try simp only [rowSet_fI hp,rowSet_fI2 hp]);(try simp only [rowSet_fB hp])))|refine aE ?_ fun hp=>?_|refine aC ?_ fun hp=>?_|refine And.intro ?_ ?_|clear hK K)
   all_goals try omega
 · rw [hB] at hg
   refine vO tok Tryz.func139 rfl rfl Tryz.ntmps139 Tryz.results139 rfl (by decide) (fun cx hnt hk0=>?_)

   repeat' (first|refine vS fun K hK=>?_|refine hK _ ?_;clear hK K|refine hX ?_;clear hX hY X Y|((first|refine vR tok (by rw [hnt];rfl) ?_|refine vC fun X Y hX hY=>?_|refine vF [] ?_|(refine AWp.draw (id:=2) tok mixed pl_marksT_drop1 [0,8] [0,4] (by kernel_rfl) (by kernel_rfl) (by rw [hnt];rfl) ?_)|(refine effS_v [] (iBankBack_yes c.bank _ _ _ (by omega) (by omega) (by omega) hg) ?_ ?_ ?_ ?_ ?_))<;>(try simp only [go_sem,qa,qb,qc,qd,qe,qf,qg,qh,qi,qj,qk,ql,qm,qn,qo,qp,qq,qr,qs,reduceIte,reduceCtorEq,es,if_true]))|refine Fits.of ?_ ?_|(refine aL ?_ (fun hp=>?_)<;>((try simp only [rowSet_fI hp,rowSet_fI2 hp]);(try simp only [rowSet_fB hp])))|refine aE ?_ fun hp=>?_|refine aC ?_ fun hp=>?_|refine And.intro ?_ ?_|clear hK K)
   all_goals try omega
def fnV (f:Nat):Cell:=.t (.v (.func (.func f) #[] #[]))
def stepCells:List Cell:=[ci 1,fnV 199,fnV 200,ci 2,fnV 201,fnV 202,ci 3,fnV 203,fnV 204,ci 4,fnV 205,fnV 206,
 ci 5,fnV 207,fnV 208,ci 6,fnV 209,fnV 208,ci 7,fnV 210,fnV 211]
def isT:Cell→Bool
 | .t _=>true
 | _=>false
theorem rle_isT {H:Heap} {fz:Nat→Prop} {τ:List (Nat × Nat)} {N wd n:Nat} {f:Nat→Nat→Cell} (h:∀ i,i < n→∀ j,j < wd→isT (f i j)=true):rle H fz τ N wd n f f:=by
 intro i hi j hj
 have:=h i hi j hj
 cases e:f i j with
 | t x=>simp [cle_t,tof_t,tle_refl]
 | _=>rw [e] at this;cases this
theorem waySteps_ok:Call Tryz.prog 192 [] [] 0 (.o (.c (.sl 0 3 0 7))) [(0,.row 3 7 (rowOf 3 stepCells))] 1:=by
 refine vO tok Tryz.func192 rfl rfl Tryz.ntmps192 Tryz.results192 rfl (by decide) (fun cx hnt hk0=>?_)
 repeat' (first|refine vS fun K hK=>?_|refine hK _ ?_;clear hK K|((first|refine vR tok (by rw [hnt];rfl) ?_|refine vT ?_|(refine vF [] ?_))<;>(try simp only [go_sem,qa,qb,qc,qd,qe,qf,qg,qh,qi,qj,qk,ql,qm,qn,qo,qp,qq,qr,qs,reduceIte,reduceCtorEq,stepCells,fnV])))
 exact rle_isT (by decide)
theorem wayFind_1:Call Tryz.prog 173 [I 1] [] 0 (.tup [.g [ci 1,fnV 199,fnV 200],BB true]) [] 0:=by
 refine vO tok Tryz.func173 rfl rfl Tryz.ntmps173 Tryz.results173 rfl (by decide) (fun cx hnt hk0=>?_)
 repeat' (first|refine vS fun K hK=>?_|refine hK _ ?_;clear hK K|refine vB ?_|((first|refine vR tok (by rw [hnt];rfl) ?_|(refine runS_c [] (waySteps_ok) rfl ?_ ?_ ?_))<;>(try simp only [go_sem,qa,qb,qc,qd,qe,qf,qg,qh,qi,qj,qk,ql,qm,qn,qo,qp,qq,qr,qs,reduceIte,reduceCtorEq])))
 refine AWp.loopN 8 fun L hL=>?_
 repeat' (first|refine vS fun K hK=>?_|refine hK _ ?_;clear hK K|refine hX ?_;clear hX hY X Y|refine vB ?_|refine hL _ _ ?_|((first|refine vR tok (by rw [hnt];rfl) ?_|refine vC fun X Y hX hY=>?_|refine vK ?_|refine vT ?_|(refine vF [] ?_))<;>(try simp only [go_sem,qa,qb,qc,qd,qe,qf,qg,qh,qi,qj,qk,ql,qm,qn,qo,qp,qq,qr,qs,reduceIte,reduceCtorEq,rowOf,stepCells,fnV,List.getD_cons_succ,Nat.reduceSucc]))|refine aL ?_ fun hp=>?_|clear hK K|clear hL L)
 all_goals omega
theorem wayFind_2:Call Tryz.prog 173 [I 2] [] 0 (.tup [.g [ci 2,fnV 201,fnV 202],BB true]) [] 0:=by
 refine vO tok Tryz.func173 rfl rfl Tryz.ntmps173 Tryz.results173 rfl (by decide) (fun cx hnt hk0=>?_)
 repeat' (first|refine vS fun K hK=>?_|refine hK _ ?_;clear hK K|refine vB ?_|((first|refine vR tok (by rw [hnt];rfl) ?_|(refine runS_c [] (waySteps_ok) rfl ?_ ?_ ?_))<;>(try simp only [go_sem,qa,qb,qc,qd,qe,qf,qg,qh,qi,qj,qk,ql,qm,qn,qo,qp,qq,qr,qs,reduceIte,reduceCtorEq])))
 refine AWp.loopN 8 fun L hL=>?_
 repeat' (first|refine vS fun K hK=>?_|refine hK _ ?_;clear hK K|refine hX ?_;clear hX hY X Y|refine hY ?_;clear hX hY X Y|refine vB ?_|refine hL _ _ ?_|((first|refine vR tok (by rw [hnt];rfl) ?_|refine vC fun X Y hX hY=>?_|refine vK ?_|refine vT ?_|(refine vF [] ?_))<;>(try simp only [go_sem,qa,qb,qc,qd,qe,qf,qg,qh,qi,qj,qk,ql,qm,qn,qo,qp,qq,qr,qs,reduceIte,reduceCtorEq,rowOf,stepCells,fnV,List.getD_cons_succ,Nat.reduceSucc]))|refine Fits.of ?_ ?_|refine aL ?_ fun hp=>?_|refine And.intro ?_ ?_|clear hK K|clear hL L)
 all_goals omega
theorem wayFind_3:Call Tryz.prog 173 [I 3] [] 0 (.tup [.g [ci 3,fnV 203,fnV 204],BB true]) [] 0:=by
 refine vO tok Tryz.func173 rfl rfl Tryz.ntmps173 Tryz.results173 rfl (by decide) (fun cx hnt hk0=>?_)
 repeat' (first|refine vS fun K hK=>?_|refine hK _ ?_;clear hK K|refine vB ?_|((first|refine vR tok (by rw [hnt];rfl) ?_|(refine runS_c [] (waySteps_ok) rfl ?_ ?_ ?_))<;>(try simp only [go_sem,qa,qb,qc,qd,qe,qf,qg,qh,qi,qj,qk,ql,qm,qn,qo,qp,qq,qr,qs,reduceIte,reduceCtorEq])))
 refine AWp.loopN 8 fun L hL=>?_
 repeat' (first|refine vS fun K hK=>?_|refine hK _ ?_;clear hK K|refine hX ?_;clear hX hY X Y|refine hY ?_;clear hX hY X Y|refine vB ?_|refine hL _ _ ?_|((first|refine vR tok (by rw [hnt];rfl) ?_|refine vC fun X Y hX hY=>?_|refine vK ?_|refine vT ?_|(refine vF [] ?_))<;>(try simp only [go_sem,qa,qb,qc,qd,qe,qf,qg,qh,qi,qj,qk,ql,qm,qn,qo,qp,qq,qr,qs,reduceIte,reduceCtorEq,rowOf,stepCells,fnV,List.getD_cons_succ,Nat.reduceSucc]))|refine Fits.of ?_ ?_|refine aL ?_ fun hp=>?_|refine And.intro ?_ ?_|clear hK K|clear hL L)
 all_goals omega
theorem wayFind_4:Call Tryz.prog 173 [I 4] [] 0 (.tup [.g [ci 4,fnV 205,fnV 206],BB true]) [] 0:=by
 refine vO tok Tryz.func173 rfl rfl Tryz.ntmps173 Tryz.results173 rfl (by decide) (fun cx hnt hk0=>?_)
 repeat' (first|refine vS fun K hK=>?_|refine hK _ ?_;clear hK K|refine vB ?_|((first|refine vR tok (by rw [hnt];rfl) ?_|(refine runS_c [] (waySteps_ok) rfl ?_ ?_ ?_))<;>(try simp only [go_sem,qa,qb,qc,qd,qe,qf,qg,qh,qi,qj,qk,ql,qm,qn,qo,qp,qq,qr,qs,reduceIte,reduceCtorEq])))
 refine AWp.loopN 8 fun L hL=>?_
 repeat' (first|refine vS fun K hK=>?_|refine hK _ ?_;clear hK K|refine hX ?_;clear hX hY X Y|refine hY ?_;clear hX hY X Y|refine vB ?_|refine hL _ _ ?_|((first|refine vR tok (by rw [hnt];rfl) ?_|refine vC fun X Y hX hY=>?_|refine vK ?_|refine vT ?_|(refine vF [] ?_))<;>(try simp only [go_sem,qa,qb,qc,qd,qe,qf,qg,qh,qi,qj,qk,ql,qm,qn,qo,qp,qq,qr,qs,reduceIte,reduceCtorEq,rowOf,stepCells,fnV,List.getD_cons_succ,Nat.reduceSucc]))|refine Fits.of ?_ ?_|refine aL ?_ fun hp=>?_|refine And.intro ?_ ?_|clear hK K|clear hL L)
 all_goals omega
theorem wayFind_5:Call Tryz.prog 173 [I 5] [] 0 (.tup [.g [ci 5,fnV 207,fnV 208],BB true]) [] 0:=by
 refine vO tok Tryz.func173 rfl rfl Tryz.ntmps173 Tryz.results173 rfl (by decide) (fun cx hnt hk0=>?_)
 repeat' (first|refine vS fun K hK=>?_|refine hK _ ?_;clear hK K|refine vB ?_|((first|refine vR tok (by rw [hnt];rfl) ?_|(refine runS_c [] (waySteps_ok) rfl ?_ ?_ ?_))<;>(try simp only [go_sem,qa,qb,qc,qd,qe,qf,qg,qh,qi,qj,qk,ql,qm,qn,qo,qp,qq,qr,qs,reduceIte,reduceCtorEq])))
 refine AWp.loopN 8 fun L hL=>?_
 repeat' (first|refine vS fun K hK=>?_|refine hK _ ?_;clear hK K|refine hX ?_;clear hX hY X Y|refine hY ?_;clear hX hY X Y|refine vB ?_|refine hL _ _ ?_|((first|refine vR tok (by rw [hnt];rfl) ?_|refine vC fun X Y hX hY=>?_|refine vK ?_|refine vT ?_|(refine vF [] ?_))<;>(try simp only [go_sem,qa,qb,qc,qd,qe,qf,qg,qh,qi,qj,qk,ql,qm,qn,qo,qp,qq,qr,qs,reduceIte,reduceCtorEq,rowOf,stepCells,fnV,List.getD_cons_succ,Nat.reduceSucc]))|refine Fits.of ?_ ?_|refine aL ?_ fun hp=>?_|refine And.intro ?_ ?_|clear hK K|clear hL L)
 all_goals omega
theorem wayFind_6:Call Tryz.prog 173 [I 6] [] 0 (.tup [.g [ci 6,fnV 209,fnV 208],BB true]) [] 0:=by
 refine vO tok Tryz.func173 rfl rfl Tryz.ntmps173 Tryz.results173 rfl (by decide) (fun cx hnt hk0=>?_)
 repeat' (first|refine vS fun K hK=>?_|refine hK _ ?_;clear hK K|refine vB ?_|((first|refine vR tok (by rw [hnt];rfl) ?_|(refine runS_c [] (waySteps_ok) rfl ?_ ?_ ?_))<;>(try simp only [go_sem,qa,qb,qc,qd,qe,qf,qg,qh,qi,qj,qk,ql,qm,qn,qo,qp,qq,qr,qs,reduceIte,reduceCtorEq])))
 refine AWp.loopN 8 fun L hL=>?_
 repeat' (first|refine vS fun K hK=>?_|refine hK _ ?_;clear hK K|refine hX ?_;clear hX hY X Y|refine hY ?_;clear hX hY X Y|refine vB ?_|refine hL _ _ ?_|((first|refine vR tok (by rw [hnt];rfl) ?_|refine vC fun X Y hX hY=>?_|refine vK ?_|refine vT ?_|(refine vF [] ?_))<;>(try simp only [go_sem,qa,qb,qc,qd,qe,qf,qg,qh,qi,qj,qk,ql,qm,qn,qo,qp,qq,qr,qs,reduceIte,reduceCtorEq,rowOf,stepCells,fnV,List.getD_cons_succ,Nat.reduceSucc]))|refine Fits.of ?_ ?_|refine aL ?_ fun hp=>?_|refine And.intro ?_ ?_|clear hK K|clear hL L)
 all_goals omega
theorem wayFind_7:Call Tryz.prog 173 [I 7] [] 0 (.tup [.g [ci 7,fnV 210,fnV 211],BB true]) [] 0:=by
 refine vO tok Tryz.func173 rfl rfl Tryz.ntmps173 Tryz.results173 rfl (by decide) (fun cx hnt hk0=>?_)
 repeat' (first|refine vS fun K hK=>?_|refine hK _ ?_;clear hK K|refine vB ?_|((first|refine vR tok (by rw [hnt];rfl) ?_|(refine runS_c [] (waySteps_ok) rfl ?_ ?_ ?_))<;>(try simp only [go_sem,qa,qb,qc,qd,qe,qf,qg,qh,qi,qj,qk,ql,qm,qn,qo,qp,qq,qr,qs,reduceIte,reduceCtorEq])))
 refine AWp.loopN 8 fun L hL=>?_
 repeat' (first|refine vS fun K hK=>?_|refine hK _ ?_;clear hK K|refine hX ?_;clear hX hY X Y|refine hY ?_;clear hX hY X Y|refine vB ?_|refine hL _ _ ?_|((first|refine vR tok (by rw [hnt];rfl) ?_|refine vC fun X Y hX hY=>?_|refine vK ?_|refine vT ?_|(refine vF [] ?_))<;>(try simp only [go_sem,qa,qb,qc,qd,qe,qf,qg,qh,qi,qj,qk,ql,qm,qn,qo,qp,qq,qr,qs,reduceIte,reduceCtorEq,rowOf,stepCells,fnV,List.getD_cons_succ,Nat.reduceSucc]))|refine Fits.of ?_ ?_|refine aL ?_ fun hp=>?_|refine And.intro ?_ ?_|clear hK K|clear hL L)
 all_goals omega
theorem wayFind_no (n:Int) (h:n < 1 ∨ 7 < n):Call Tryz.prog 173 [I n] [] 0 (.tup [.g [ci 0,.t (.v .nilFunc),.t (.v .nilFunc)],BB false]) [] 0:=by
 refine vO tok Tryz.func173 rfl rfl Tryz.ntmps173 Tryz.results173 rfl (by decide) (fun cx hnt hk0=>?_)
 repeat' (first|refine vS fun K hK=>?_|refine hK _ ?_;clear hK K|refine vB ?_|((first|refine vR tok (by rw [hnt];rfl) ?_|(refine runS_c [] (waySteps_ok) rfl ?_ ?_ ?_))<;>(try simp only [go_sem,qa,qb,qc,qd,qe,qf,qg,qh,qi,qj,qk,ql,qm,qn,qo,qp,qq,qr,qs,reduceIte,reduceCtorEq])))
 refine AWp.loopN 8 fun L hL=>?_
 repeat' (first|refine vS fun K hK=>?_|refine hK _ ?_;clear hK K|refine hX ?_;clear hX hY X Y|refine hY ?_;clear hX hY X Y|refine vB ?_|refine hL _ _ ?_|((first|refine vR tok (by rw [hnt];rfl) ?_|refine vC fun X Y hX hY=>?_|refine vK ?_|refine vE ?_|refine vT ?_|refine vF [] ?_|(apply gC<;>intro hq<;>(try simp only [nT,nF,n1,n0] at hq)<;>(have hb:=hq)<;>(try simp only [dT,dF,eT,eF] at hb)<;>first|(exfalso;omega)|((try simp only [hq]);clear hq)))<;>(try simp only [go_sem,qa,qb,qc,qd,qe,qf,qg,qh,qi,qj,qk,ql,qm,qn,qo,qp,qq,qr,qs,reduceIte,reduceCtorEq,rowOf,stepCells,fnV,List.getD_cons_succ,Nat.reduceSucc]))|refine Fits.of ?_ ?_|refine aL ?_ fun hp=>?_|refine And.intro ?_ ?_|clear hK K|clear hL L)
 all_goals omega
theorem may_1 (s o:State) (h0:0≤s.way∧s.way≤4) (h1:1≤s.ver∧s.ver≤9):Call Tryz.prog 199 [s.av,o.av] [] 0 (.o (BB (wayMay s o 1))) [] 0:=by
 refine vO tok Tryz.func199 rfl rfl Tryz.ntmps199 Tryz.results199 rfl (by decide) (fun cx hnt hk0=>?_)
 repeat' (first|refine vS fun K hK=>?_|refine hK _ ?_;clear hK K|((first|refine vR tok (by rw [hnt];rfl) ?_|refine vT ?_|(refine vF [] ?_))<;>(try simp only [go_sem,qa,qb,qc,qd,qe,qf,qg,qh,qi,qj,qk,ql,qm,qn,qo,qp,qq,qr,qs,reduceIte,reduceCtorEq])))
 all_goals try omega
 all_goals (rw [Bool.eq_iff_iff];simp [wayMay]<;>omega)
theorem may_2 (s o:State) (h0:0≤s.way∧s.way≤4) (h1:1≤s.ver∧s.ver≤9):Call Tryz.prog 201 [s.av,o.av] [] 0 (.o (BB (wayMay s o 2))) [] 0:=by
 refine vO tok Tryz.func201 rfl rfl Tryz.ntmps201 Tryz.results201 rfl (by decide) (fun cx hnt hk0=>?_)
 repeat' (first|refine vS fun K hK=>?_|refine hK _ ?_;clear hK K|((first|refine vR tok (by rw [hnt];rfl) ?_|refine vT ?_|refine vF [] ?_|(apply gR<;>intro hq<;>(try simp only [nT,nF,n1,n0] at hq)<;>(have hb:=hq)<;>(try simp only [dT,dF,eT,eF] at hb)<;>first|(exfalso;omega)|((try simp only [hq]);clear hq)))<;>(try simp only [go_sem,qa,qb,qc,qd,qe,qf,qg,qh,qi,qj,qk,ql,qm,qn,qo,qp,qq,qr,qs,reduceIte,reduceCtorEq])))
 all_goals try omega
 all_goals (rw [Bool.eq_iff_iff];simp [wayMay]<;>omega)
theorem may_3 (s o:State) (h0:0≤s.way∧s.way≤4) (h1:1≤s.ver∧s.ver≤9):Call Tryz.prog 203 [s.av,o.av] [] 0 (.o (BB (wayMay s o 3))) [] 0:=by
 refine vO tok Tryz.func203 rfl rfl Tryz.ntmps203 Tryz.results203 rfl (by decide) (fun cx hnt hk0=>?_)
 repeat' (first|refine vS fun K hK=>?_|refine hK _ ?_;clear hK K|((first|refine vR tok (by rw [hnt];rfl) ?_|refine vT ?_|refine vF [] ?_|(apply gR<;>intro hq<;>(try simp only [nT,nF,n1,n0] at hq)<;>(have hb:=hq)<;>(try simp only [dT,dF,eT,eF] at hb)<;>first|(exfalso;omega)|((try simp only [hq]);clear hq)))<;>(try simp only [go_sem,qa,qb,qc,qd,qe,qf,qg,qh,qi,qj,qk,ql,qm,qn,qo,qp,qq,qr,qs,reduceIte,reduceCtorEq])))
 all_goals try omega
 all_goals (rw [Bool.eq_iff_iff];simp [wayMay]<;>omega)
theorem may_4 (s o:State) (h0:0≤s.way∧s.way≤4) (h1:1≤s.ver∧s.ver≤9):Call Tryz.prog 205 [s.av,o.av] [] 0 (.o (BB (wayMay s o 4))) [] 0:=by
 refine vO tok Tryz.func205 rfl rfl Tryz.ntmps205 Tryz.results205 rfl (by decide) (fun cx hnt hk0=>?_)
 repeat' (first|refine vS fun K hK=>?_|refine hK _ ?_;clear hK K|((first|refine vR tok (by rw [hnt];rfl) ?_|refine vT ?_|refine vF [] ?_|(apply gR<;>intro hq<;>(try simp only [nT,nF,n1,n0] at hq)<;>(have hb:=hq)<;>(try simp only [dT,dF,eT,eF] at hb)<;>first|(exfalso;omega)|((try simp only [hq]);clear hq)))<;>(try simp only [go_sem,qa,qb,qc,qd,qe,qf,qg,qh,qi,qj,qk,ql,qm,qn,qo,qp,qq,qr,qs,reduceIte,reduceCtorEq])))
 all_goals try omega
 all_goals (rw [Bool.eq_iff_iff];simp [wayMay]<;>omega)
theorem may_5 (s o:State) (h0:0≤s.way∧s.way≤4) (h1:1≤s.ver∧s.ver≤9):Call Tryz.prog 207 [s.av,o.av] [] 0 (.o (BB (wayMay s o 5))) [] 0:=by
 refine vO tok Tryz.func207 rfl rfl Tryz.ntmps207 Tryz.results207 rfl (by decide) (fun cx hnt hk0=>?_)
 repeat' (first|refine vS fun K hK=>?_|refine hK _ ?_;clear hK K|((first|refine vR tok (by rw [hnt];rfl) ?_|refine vT ?_|refine vF [] ?_|(apply gR<;>intro hq<;>(try simp only [nT,nF,n1,n0] at hq)<;>(have hb:=hq)<;>(try simp only [dT,dF,eT,eF] at hb)<;>first|(exfalso;omega)|((try simp only [hq]);clear hq)))<;>(try simp only [go_sem,qa,qb,qc,qd,qe,qf,qg,qh,qi,qj,qk,ql,qm,qn,qo,qp,qq,qr,qs,reduceIte,reduceCtorEq])))
 all_goals try omega
 all_goals (rw [Bool.eq_iff_iff];simp [wayMay]<;>omega)
theorem may_6 (s o:State) (h0:0≤s.way∧s.way≤4) (h1:1≤s.ver∧s.ver≤9):Call Tryz.prog 209 [s.av,o.av] [] 0 (.o (BB (wayMay s o 6))) [] 0:=by
 refine vO tok Tryz.func209 rfl rfl Tryz.ntmps209 Tryz.results209 rfl (by decide) (fun cx hnt hk0=>?_)
 repeat' (first|refine vS fun K hK=>?_|refine hK _ ?_;clear hK K|((first|refine vR tok (by rw [hnt];rfl) ?_|refine vT ?_|refine vF [] ?_|(apply gR<;>intro hq<;>(try simp only [nT,nF,n1,n0] at hq)<;>(have hb:=hq)<;>(try simp only [dT,dF,eT,eF] at hb)<;>first|(exfalso;omega)|((try simp only [hq]);clear hq)))<;>(try simp only [go_sem,qa,qb,qc,qd,qe,qf,qg,qh,qi,qj,qk,ql,qm,qn,qo,qp,qq,qr,qs,reduceIte,reduceCtorEq]))|refine Fits.of ?_ ?_|refine And.intro ?_ ?_|clear hK K)
 all_goals try omega
 all_goals (rw [Bool.eq_iff_iff];simp [wayMay]<;>omega)
theorem may_7 (s o:State) (h1:s.live.length≤1000) (h2:o.live.length≤1000) (h3:0≤s.way∧s.way≤4):Call Tryz.prog 210 [s.av,o.av] [] 0 (.o (BB (wayMay s o 7))) [] 0:=by
 refine vO tok Tryz.func210 rfl rfl Tryz.ntmps210 Tryz.results210 rfl (by decide) (fun cx hnt hk0=>?_)
 repeat' (first|refine vS fun K hK=>?_|refine hK _ ?_;clear hK K|refine hX ?_;clear hX hY X Y|refine hY ?_;clear hX hY X Y|((first|refine vR tok (by rw [hnt];rfl) ?_|refine vC fun X Y hX hY=>?_|refine vK ?_|refine vT ?_|refine vF [] ?_|refine runS_c [] (wayIdle_ok s h1) rfl ?_ ?_ ?_|refine runS_c [] (wayIdle_ok o h2) rfl ?_ ?_ ?_|((first|apply gR|apply gC)<;>intro hq<;>(try simp only [nT,nF,n1,n0] at hq)<;>(have hb:=hq)<;>(try simp only [dT,dF,eT,eF] at hb)<;>first|(exfalso;omega)|((try simp only [hq]);clear hq)))<;>(try simp only [go_sem,qa,qb,qc,qd,qe,qf,qg,qh,qi,qj,qk,ql,qm,qn,qo,qp,qq,qr,qs,reduceIte,reduceCtorEq]))|clear hK K)
 all_goals try omega
 all_goals (rw [Bool.eq_iff_iff];simp [wayMay]<;>omega)
theorem do_1 (s:State) (h1:1≤s.ver∧s.ver≤9):Call Tryz.prog 200 [.c (.ptr 0 0 0 0)] [(0,.box (stateA s 1))] 5 (.tup []) [(0,.box (stateA { s with way:=1 } 1))] 5:=by
 refine vO tok Tryz.func200 rfl rfl Tryz.ntmps200 Tryz.results200 rfl (by decide) (fun cx hnt hk0=>?_)
 repeat' (first|((first|refine vR tok (by rw [hnt];rfl) ?_|(refine vF [] ?_))<;>(try simp only [go_sem,qa,qb,qc,qd,qe,qf,qg,qh,qi,qj,qk,ql,qm,qn,qo,qp,qq,qr,qs,reduceIte,reduceCtorEq])))
 all_goals try omega
theorem do_2 (s:State) (h1:1≤s.ver∧s.ver≤9):Call Tryz.prog 202 [.c (.ptr 0 0 0 0)] [(0,.box (stateA s 1))] 5 (.tup []) [(0,.box (stateA { s with way:=2 } 1))] 5:=by
 refine vO tok Tryz.func202 rfl rfl Tryz.ntmps202 Tryz.results202 rfl (by decide) (fun cx hnt hk0=>?_)
 repeat' (first|((first|refine vR tok (by rw [hnt];rfl) ?_|(refine vF [] ?_))<;>(try simp only [go_sem,qa,qb,qc,qd,qe,qf,qg,qh,qi,qj,qk,ql,qm,qn,qo,qp,qq,qr,qs,reduceIte,reduceCtorEq])))
 all_goals try omega
theorem do_3 (s:State) (h1:1≤s.ver∧s.ver≤9):Call Tryz.prog 204 [.c (.ptr 0 0 0 0)] [(0,.box (stateA s 1))] 5 (.tup []) [(0,.box (stateA { s with way:=3 } 1))] 5:=by
 refine vO tok Tryz.func204 rfl rfl Tryz.ntmps204 Tryz.results204 rfl (by decide) (fun cx hnt hk0=>?_)
 repeat' (first|((first|refine vR tok (by rw [hnt];rfl) ?_|(refine vF [] ?_))<;>(try simp only [go_sem,qa,qb,qc,qd,qe,qf,qg,qh,qi,qj,qk,ql,qm,qn,qo,qp,qq,qr,qs,reduceIte,reduceCtorEq])))
 all_goals try omega
theorem do_4 (s:State) (h1:1≤s.ver∧s.ver≤9):Call Tryz.prog 206 [.c (.ptr 0 0 0 0)] [(0,.box (stateA s 1))] 5 (.tup []) [(0,.box (stateA { s with way:=3 } 1))] 5:=by
 refine vO tok Tryz.func206 rfl rfl Tryz.ntmps206 Tryz.results206 rfl (by decide) (fun cx hnt hk0=>?_)
 repeat' (first|((first|refine vR tok (by rw [hnt];rfl) ?_|(refine vF [] ?_))<;>(try simp only [go_sem,qa,qb,qc,qd,qe,qf,qg,qh,qi,qj,qk,ql,qm,qn,qo,qp,qq,qr,qs,reduceIte,reduceCtorEq])))
 all_goals try omega
theorem do_5 (s:State) (h1:1≤s.ver∧s.ver≤9):Call Tryz.prog 208 [.c (.ptr 0 0 0 0)] [(0,.box (stateA s 1))] 5 (.tup []) [(0,.box (stateA { s with way:=4,want:=s.ver+1 } 1))] 5:=by
 refine vO tok Tryz.func208 rfl rfl Tryz.ntmps208 Tryz.results208 rfl (by decide) (fun cx hnt hk0=>?_)
 repeat' (first|refine vS fun K hK=>?_|refine hK _ ?_;clear hK K|((first|refine vR tok (by rw [hnt];rfl) ?_|(refine vF [] ?_))<;>(try simp only [go_sem,qa,qb,qc,qd,qe,qf,qg,qh,qi,qj,qk,ql,qm,qn,qo,qp,qq,qr,qs,reduceIte,reduceCtorEq]))|refine Fits.of ?_ ?_|refine And.intro ?_ ?_)
 all_goals try omega
theorem do_7 (s:State) (h1:1≤s.ver∧s.ver≤9):Call Tryz.prog 211 [.c (.ptr 0 0 0 0)] [(0,.box (stateA s 1))] 5 (.tup []) [(0,.box (stateA { s with way:=3,ver:=s.want,want:=0 } 1))] 5:=by
 refine vO tok Tryz.func211 rfl rfl Tryz.ntmps211 Tryz.results211 rfl (by decide) (fun cx hnt hk0=>?_)
 repeat' (first|refine vS fun K hK=>?_|refine hK _ ?_;clear hK K|((first|refine vR tok (by rw [hnt];rfl) ?_|(refine vF [] ?_))<;>(try simp only [go_sem,qa,qb,qc,qd,qe,qf,qg,qh,qi,qj,qk,ql,qm,qn,qo,qp,qq,qr,qs,reduceIte,reduceCtorEq])))
 all_goals try omega
def State.noneA:A1:=.g [ci 0,ci 0,ci 0,.t (.v (.slice none 0 0)),.t (.v (.slice none 0 0)),.t (.v (.slice none 0 0)),.t (.v (.slice none 0 0))]
theorem WayDo_1n (s o:State) (hs:s.ok=true) (ho:o.ok=true) (hm:wayMay s o 1=false):Call Tryz.prog 141 [s.av,o.av,I 1] [] 0 (.tup [State.noneA,BB false]) [] 0:=by
 obtain ⟨r1,r2,r3,r4,r5,r6,r7,r8,r9⟩:=state_ok hs
 obtain ⟨u1,u2,u3,u4,u5,u6,u7,u8,u9⟩:=state_ok ho
 refine vO tok Tryz.func141 rfl rfl Tryz.ntmps141 Tryz.results141 rfl (by decide) (fun cx hnt hk0=>?_)
 repeat' (first|refine vS fun K hK=>?_|refine hK _ ?_;clear hK K|refine hX ?_;clear hX hY X Y|((first|refine vR tok (by rw [hnt];rfl) ?_|refine vC fun X Y hX hY=>?_|refine vT ?_|refine vF [] ?_|refine runS_c [] (wayFind_1) rfl ?_ ?_ ?_|refine runS_c [] (iStateOk_yes s hs) rfl ?_ ?_ ?_|refine runS_c [] (iStateOk_yes o ho) rfl ?_ ?_ ?_|(refine runS_c [] (may_1 s o r1 r2) rfl ?_ ?_ ?_))<;>(try simp only [go_sem,qa,qb,qc,qd,qe,qf,qg,qh,qi,qj,qk,ql,qm,qn,qo,qp,qq,qr,qs,reduceIte,reduceCtorEq,fnV,hm,State.noneA])))
theorem WayDo_1y (s o:State) (hs:s.ok=true) (ho:o.ok=true) (hm:wayMay s o 1=true):Call Tryz.prog 141 [s.av,o.av,I 1] [] 0 (.tup [.g (stateA { s with way:=1 } 0),BB true]) (stateH { s with way:=1 } 0) 4:=by
 obtain ⟨r1,r2,r3,r4,r5,r6,r7,r8,r9⟩:=state_ok hs
 obtain ⟨u1,u2,u3,u4,u5,u6,u7,u8,u9⟩:=state_ok ho
 refine vO tok Tryz.func141 rfl rfl Tryz.ntmps141 Tryz.results141 rfl (by decide) (fun cx hnt hk0=>?_)
 repeat' (first|refine vS fun K hK=>?_|refine hK _ ?_;clear hK K|refine hY ?_;clear hX hY X Y|((first|refine vR tok (by rw [hnt];rfl) ?_|refine vC fun X Y hX hY=>?_|refine vK ?_|refine vT ?_|refine vF [] ?_|refine runS_c [] (wayFind_1) rfl ?_ ?_ ?_|refine runS_c [] (iStateOk_yes s hs) rfl ?_ ?_ ?_|refine runS_c [] (iStateOk_yes o ho) rfl ?_ ?_ ?_|refine runS_c [] (may_1 s o r1 r2) rfl ?_ ?_ ?_|(refine runS_c [] (stateCopy_ok s (by omega) (by omega) (by omega) (by omega)) rfl ?_ ?_ ?_)|(refine runS_c [8,4,5,6,7] (do_1 s r2) rfl ?_ ?_ ?_))<;>(try simp only [go_sem,qa,qb,qc,qd,qe,qf,qg,qh,qi,qj,qk,ql,qm,qn,qo,qp,qq,qr,qs,reduceIte,reduceCtorEq,fnV,hm])))
theorem WayDo_2n (s o:State) (hs:s.ok=true) (ho:o.ok=true) (hm:wayMay s o 2=false):Call Tryz.prog 141 [s.av,o.av,I 2] [] 0 (.tup [State.noneA,BB false]) [] 0:=by
 obtain ⟨r1,r2,r3,r4,r5,r6,r7,r8,r9⟩:=state_ok hs
 obtain ⟨u1,u2,u3,u4,u5,u6,u7,u8,u9⟩:=state_ok ho
 refine vO tok Tryz.func141 rfl rfl Tryz.ntmps141 Tryz.results141 rfl (by decide) (fun cx hnt hk0=>?_)
 repeat' (first|refine vS fun K hK=>?_|refine hK _ ?_;clear hK K|refine hX ?_;clear hX hY X Y|((first|refine vR tok (by rw [hnt];rfl) ?_|refine vC fun X Y hX hY=>?_|refine vT ?_|refine vF [] ?_|refine runS_c [] (wayFind_2) rfl ?_ ?_ ?_|refine runS_c [] (iStateOk_yes s hs) rfl ?_ ?_ ?_|refine runS_c [] (iStateOk_yes o ho) rfl ?_ ?_ ?_|(refine runS_c [] (may_2 s o r1 r2) rfl ?_ ?_ ?_))<;>(try simp only [go_sem,qa,qb,qc,qd,qe,qf,qg,qh,qi,qj,qk,ql,qm,qn,qo,qp,qq,qr,qs,reduceIte,reduceCtorEq,fnV,hm,State.noneA])))
theorem WayDo_2y (s o:State) (hs:s.ok=true) (ho:o.ok=true) (hm:wayMay s o 2=true):Call Tryz.prog 141 [s.av,o.av,I 2] [] 0 (.tup [.g (stateA { s with way:=2 } 0),BB true]) (stateH { s with way:=2 } 0) 4:=by
 obtain ⟨r1,r2,r3,r4,r5,r6,r7,r8,r9⟩:=state_ok hs
 obtain ⟨u1,u2,u3,u4,u5,u6,u7,u8,u9⟩:=state_ok ho
 refine vO tok Tryz.func141 rfl rfl Tryz.ntmps141 Tryz.results141 rfl (by decide) (fun cx hnt hk0=>?_)
 repeat' (first|refine vS fun K hK=>?_|refine hK _ ?_;clear hK K|refine hY ?_;clear hX hY X Y|((first|refine vR tok (by rw [hnt];rfl) ?_|refine vC fun X Y hX hY=>?_|refine vK ?_|refine vT ?_|refine vF [] ?_|refine runS_c [] (wayFind_2) rfl ?_ ?_ ?_|refine runS_c [] (iStateOk_yes s hs) rfl ?_ ?_ ?_|refine runS_c [] (iStateOk_yes o ho) rfl ?_ ?_ ?_|refine runS_c [] (may_2 s o r1 r2) rfl ?_ ?_ ?_|(refine runS_c [] (stateCopy_ok s (by omega) (by omega) (by omega) (by omega)) rfl ?_ ?_ ?_)|(refine runS_c [8,4,5,6,7] (do_2 s r2) rfl ?_ ?_ ?_))<;>(try simp only [go_sem,qa,qb,qc,qd,qe,qf,qg,qh,qi,qj,qk,ql,qm,qn,qo,qp,qq,qr,qs,reduceIte,reduceCtorEq,fnV,hm])))
theorem WayDo_3n (s o:State) (hs:s.ok=true) (ho:o.ok=true) (hm:wayMay s o 3=false):Call Tryz.prog 141 [s.av,o.av,I 3] [] 0 (.tup [State.noneA,BB false]) [] 0:=by
 obtain ⟨r1,r2,r3,r4,r5,r6,r7,r8,r9⟩:=state_ok hs
 obtain ⟨u1,u2,u3,u4,u5,u6,u7,u8,u9⟩:=state_ok ho
 refine vO tok Tryz.func141 rfl rfl Tryz.ntmps141 Tryz.results141 rfl (by decide) (fun cx hnt hk0=>?_)
 repeat' (first|refine vS fun K hK=>?_|refine hK _ ?_;clear hK K|refine hX ?_;clear hX hY X Y|((first|refine vR tok (by rw [hnt];rfl) ?_|refine vC fun X Y hX hY=>?_|refine vT ?_|refine vF [] ?_|refine runS_c [] (wayFind_3) rfl ?_ ?_ ?_|refine runS_c [] (iStateOk_yes s hs) rfl ?_ ?_ ?_|refine runS_c [] (iStateOk_yes o ho) rfl ?_ ?_ ?_|(refine runS_c [] (may_3 s o r1 r2) rfl ?_ ?_ ?_))<;>(try simp only [go_sem,qa,qb,qc,qd,qe,qf,qg,qh,qi,qj,qk,ql,qm,qn,qo,qp,qq,qr,qs,reduceIte,reduceCtorEq,fnV,hm,State.noneA])))
theorem WayDo_3y (s o:State) (hs:s.ok=true) (ho:o.ok=true) (hm:wayMay s o 3=true):Call Tryz.prog 141 [s.av,o.av,I 3] [] 0 (.tup [.g (stateA { s with way:=3 } 0),BB true]) (stateH { s with way:=3 } 0) 4:=by
 obtain ⟨r1,r2,r3,r4,r5,r6,r7,r8,r9⟩:=state_ok hs
 obtain ⟨u1,u2,u3,u4,u5,u6,u7,u8,u9⟩:=state_ok ho
 refine vO tok Tryz.func141 rfl rfl Tryz.ntmps141 Tryz.results141 rfl (by decide) (fun cx hnt hk0=>?_)
 repeat' (first|refine vS fun K hK=>?_|refine hK _ ?_;clear hK K|refine hY ?_;clear hX hY X Y|((first|refine vR tok (by rw [hnt];rfl) ?_|refine vC fun X Y hX hY=>?_|refine vK ?_|refine vT ?_|refine vF [] ?_|refine runS_c [] (wayFind_3) rfl ?_ ?_ ?_|refine runS_c [] (iStateOk_yes s hs) rfl ?_ ?_ ?_|refine runS_c [] (iStateOk_yes o ho) rfl ?_ ?_ ?_|refine runS_c [] (may_3 s o r1 r2) rfl ?_ ?_ ?_|(refine runS_c [] (stateCopy_ok s (by omega) (by omega) (by omega) (by omega)) rfl ?_ ?_ ?_)|(refine runS_c [8,4,5,6,7] (do_3 s r2) rfl ?_ ?_ ?_))<;>(try simp only [go_sem,qa,qb,qc,qd,qe,qf,qg,qh,qi,qj,qk,ql,qm,qn,qo,qp,qq,qr,qs,reduceIte,reduceCtorEq,fnV,hm])))
theorem WayDo_4n (s o:State) (hs:s.ok=true) (ho:o.ok=true) (hm:wayMay s o 4=false):Call Tryz.prog 141 [s.av,o.av,I 4] [] 0 (.tup [State.noneA,BB false]) [] 0:=by
 obtain ⟨r1,r2,r3,r4,r5,r6,r7,r8,r9⟩:=state_ok hs
 obtain ⟨u1,u2,u3,u4,u5,u6,u7,u8,u9⟩:=state_ok ho
 refine vO tok Tryz.func141 rfl rfl Tryz.ntmps141 Tryz.results141 rfl (by decide) (fun cx hnt hk0=>?_)
 repeat' (first|refine vS fun K hK=>?_|refine hK _ ?_;clear hK K|refine hX ?_;clear hX hY X Y|((first|refine vR tok (by rw [hnt];rfl) ?_|refine vC fun X Y hX hY=>?_|refine vT ?_|refine vF [] ?_|refine runS_c [] (wayFind_4) rfl ?_ ?_ ?_|refine runS_c [] (iStateOk_yes s hs) rfl ?_ ?_ ?_|refine runS_c [] (iStateOk_yes o ho) rfl ?_ ?_ ?_|(refine runS_c [] (may_4 s o r1 r2) rfl ?_ ?_ ?_))<;>(try simp only [go_sem,qa,qb,qc,qd,qe,qf,qg,qh,qi,qj,qk,ql,qm,qn,qo,qp,qq,qr,qs,reduceIte,reduceCtorEq,fnV,hm,State.noneA])))
theorem WayDo_4y (s o:State) (hs:s.ok=true) (ho:o.ok=true) (hm:wayMay s o 4=true):Call Tryz.prog 141 [s.av,o.av,I 4] [] 0 (.tup [.g (stateA { s with way:=3 } 0),BB true]) (stateH { s with way:=3 } 0) 4:=by
 obtain ⟨r1,r2,r3,r4,r5,r6,r7,r8,r9⟩:=state_ok hs
 obtain ⟨u1,u2,u3,u4,u5,u6,u7,u8,u9⟩:=state_ok ho
 refine vO tok Tryz.func141 rfl rfl Tryz.ntmps141 Tryz.results141 rfl (by decide) (fun cx hnt hk0=>?_)
 repeat' (first|refine vS fun K hK=>?_|refine hK _ ?_;clear hK K|refine hY ?_;clear hX hY X Y|((first|refine vR tok (by rw [hnt];rfl) ?_|refine vC fun X Y hX hY=>?_|refine vK ?_|refine vT ?_|refine vF [] ?_|refine runS_c [] (wayFind_4) rfl ?_ ?_ ?_|refine runS_c [] (iStateOk_yes s hs) rfl ?_ ?_ ?_|refine runS_c [] (iStateOk_yes o ho) rfl ?_ ?_ ?_|refine runS_c [] (may_4 s o r1 r2) rfl ?_ ?_ ?_|(refine runS_c [] (stateCopy_ok s (by omega) (by omega) (by omega) (by omega)) rfl ?_ ?_ ?_)|(refine runS_c [8,4,5,6,7] (do_4 s r2) rfl ?_ ?_ ?_))<;>(try simp only [go_sem,qa,qb,qc,qd,qe,qf,qg,qh,qi,qj,qk,ql,qm,qn,qo,qp,qq,qr,qs,reduceIte,reduceCtorEq,fnV,hm])))
theorem WayDo_5n (s o:State) (hs:s.ok=true) (ho:o.ok=true) (hm:wayMay s o 5=false):Call Tryz.prog 141 [s.av,o.av,I 5] [] 0 (.tup [State.noneA,BB false]) [] 0:=by
 obtain ⟨r1,r2,r3,r4,r5,r6,r7,r8,r9⟩:=state_ok hs
 obtain ⟨u1,u2,u3,u4,u5,u6,u7,u8,u9⟩:=state_ok ho
 refine vO tok Tryz.func141 rfl rfl Tryz.ntmps141 Tryz.results141 rfl (by decide) (fun cx hnt hk0=>?_)
 repeat' (first|refine vS fun K hK=>?_|refine hK _ ?_;clear hK K|refine hX ?_;clear hX hY X Y|((first|refine vR tok (by rw [hnt];rfl) ?_|refine vC fun X Y hX hY=>?_|refine vT ?_|refine vF [] ?_|refine runS_c [] (wayFind_5) rfl ?_ ?_ ?_|refine runS_c [] (iStateOk_yes s hs) rfl ?_ ?_ ?_|refine runS_c [] (iStateOk_yes o ho) rfl ?_ ?_ ?_|(refine runS_c [] (may_5 s o r1 r2) rfl ?_ ?_ ?_))<;>(try simp only [go_sem,qa,qb,qc,qd,qe,qf,qg,qh,qi,qj,qk,ql,qm,qn,qo,qp,qq,qr,qs,reduceIte,reduceCtorEq,fnV,hm,State.noneA])))
theorem WayDo_5y (s o:State) (hs:s.ok=true) (ho:o.ok=true) (hm:wayMay s o 5=true):Call Tryz.prog 141 [s.av,o.av,I 5] [] 0 (.tup [.g (stateA { s with way:=4,want:=s.ver+1 } 0),BB true]) (stateH { s with way:=4,want:=s.ver+1 } 0) 4:=by
 obtain ⟨r1,r2,r3,r4,r5,r6,r7,r8,r9⟩:=state_ok hs
 obtain ⟨u1,u2,u3,u4,u5,u6,u7,u8,u9⟩:=state_ok ho
 refine vO tok Tryz.func141 rfl rfl Tryz.ntmps141 Tryz.results141 rfl (by decide) (fun cx hnt hk0=>?_)
 repeat' (first|refine vS fun K hK=>?_|refine hK _ ?_;clear hK K|refine hY ?_;clear hX hY X Y|((first|refine vR tok (by rw [hnt];rfl) ?_|refine vC fun X Y hX hY=>?_|refine vK ?_|refine vT ?_|refine vF [] ?_|refine runS_c [] (wayFind_5) rfl ?_ ?_ ?_|refine runS_c [] (iStateOk_yes s hs) rfl ?_ ?_ ?_|refine runS_c [] (iStateOk_yes o ho) rfl ?_ ?_ ?_|refine runS_c [] (may_5 s o r1 r2) rfl ?_ ?_ ?_|(refine runS_c [] (stateCopy_ok s (by omega) (by omega) (by omega) (by omega)) rfl ?_ ?_ ?_)|(refine runS_c [8,4,5,6,7] (do_5 s r2) rfl ?_ ?_ ?_))<;>(try simp only [go_sem,qa,qb,qc,qd,qe,qf,qg,qh,qi,qj,qk,ql,qm,qn,qo,qp,qq,qr,qs,reduceIte,reduceCtorEq,fnV,hm])))
theorem WayDo_6n (s o:State) (hs:s.ok=true) (ho:o.ok=true) (hm:wayMay s o 6=false):Call Tryz.prog 141 [s.av,o.av,I 6] [] 0 (.tup [State.noneA,BB false]) [] 0:=by
 obtain ⟨r1,r2,r3,r4,r5,r6,r7,r8,r9⟩:=state_ok hs
 obtain ⟨u1,u2,u3,u4,u5,u6,u7,u8,u9⟩:=state_ok ho
 refine vO tok Tryz.func141 rfl rfl Tryz.ntmps141 Tryz.results141 rfl (by decide) (fun cx hnt hk0=>?_)
 repeat' (first|refine vS fun K hK=>?_|refine hK _ ?_;clear hK K|refine hX ?_;clear hX hY X Y|((first|refine vR tok (by rw [hnt];rfl) ?_|refine vC fun X Y hX hY=>?_|refine vT ?_|refine vF [] ?_|refine runS_c [] (wayFind_6) rfl ?_ ?_ ?_|refine runS_c [] (iStateOk_yes s hs) rfl ?_ ?_ ?_|refine runS_c [] (iStateOk_yes o ho) rfl ?_ ?_ ?_|(refine runS_c [] (may_6 s o r1 r2) rfl ?_ ?_ ?_))<;>(try simp only [go_sem,qa,qb,qc,qd,qe,qf,qg,qh,qi,qj,qk,ql,qm,qn,qo,qp,qq,qr,qs,reduceIte,reduceCtorEq,fnV,hm,State.noneA])))
theorem WayDo_6y (s o:State) (hs:s.ok=true) (ho:o.ok=true) (hm:wayMay s o 6=true):Call Tryz.prog 141 [s.av,o.av,I 6] [] 0 (.tup [.g (stateA { s with way:=4,want:=s.ver+1 } 0),BB true]) (stateH { s with way:=4,want:=s.ver+1 } 0) 4:=by
 obtain ⟨r1,r2,r3,r4,r5,r6,r7,r8,r9⟩:=state_ok hs
 obtain ⟨u1,u2,u3,u4,u5,u6,u7,u8,u9⟩:=state_ok ho
 refine vO tok Tryz.func141 rfl rfl Tryz.ntmps141 Tryz.results141 rfl (by decide) (fun cx hnt hk0=>?_)
 repeat' (first|refine vS fun K hK=>?_|refine hK _ ?_;clear hK K|refine hY ?_;clear hX hY X Y|((first|refine vR tok (by rw [hnt];rfl) ?_|refine vC fun X Y hX hY=>?_|refine vK ?_|refine vT ?_|refine vF [] ?_|refine runS_c [] (wayFind_6) rfl ?_ ?_ ?_|refine runS_c [] (iStateOk_yes s hs) rfl ?_ ?_ ?_|refine runS_c [] (iStateOk_yes o ho) rfl ?_ ?_ ?_|refine runS_c [] (may_6 s o r1 r2) rfl ?_ ?_ ?_|(refine runS_c [] (stateCopy_ok s (by omega) (by omega) (by omega) (by omega)) rfl ?_ ?_ ?_)|(refine runS_c [8,4,5,6,7] (do_5 s r2) rfl ?_ ?_ ?_))<;>(try simp only [go_sem,qa,qb,qc,qd,qe,qf,qg,qh,qi,qj,qk,ql,qm,qn,qo,qp,qq,qr,qs,reduceIte,reduceCtorEq,fnV,hm])))
theorem WayDo_7n (s o:State) (hs:s.ok=true) (ho:o.ok=true) (hm:wayMay s o 7=false):Call Tryz.prog 141 [s.av,o.av,I 7] [] 0 (.tup [State.noneA,BB false]) [] 0:=by
 obtain ⟨r1,r2,r3,r4,r5,r6,r7,r8,r9⟩:=state_ok hs
 obtain ⟨u1,u2,u3,u4,u5,u6,u7,u8,u9⟩:=state_ok ho
 refine vO tok Tryz.func141 rfl rfl Tryz.ntmps141 Tryz.results141 rfl (by decide) (fun cx hnt hk0=>?_)
 repeat' (first|refine vS fun K hK=>?_|refine hK _ ?_;clear hK K|refine hX ?_;clear hX hY X Y|((first|refine vR tok (by rw [hnt];rfl) ?_|refine vC fun X Y hX hY=>?_|refine vT ?_|refine vF [] ?_|refine runS_c [] (wayFind_7) rfl ?_ ?_ ?_|refine runS_c [] (iStateOk_yes s hs) rfl ?_ ?_ ?_|refine runS_c [] (iStateOk_yes o ho) rfl ?_ ?_ ?_|(refine runS_c [] (may_7 s o (by omega) (by omega) r1) rfl ?_ ?_ ?_))<;>(try simp only [go_sem,qa,qb,qc,qd,qe,qf,qg,qh,qi,qj,qk,ql,qm,qn,qo,qp,qq,qr,qs,reduceIte,reduceCtorEq,fnV,hm,State.noneA])))
theorem WayDo_7y (s o:State) (hs:s.ok=true) (ho:o.ok=true) (hm:wayMay s o 7=true):Call Tryz.prog 141 [s.av,o.av,I 7] [] 0 (.tup [.g (stateA { s with way:=3,ver:=s.want,want:=0 } 0),BB true]) (stateH { s with way:=3,ver:=s.want,want:=0 } 0) 4:=by
 obtain ⟨r1,r2,r3,r4,r5,r6,r7,r8,r9⟩:=state_ok hs
 obtain ⟨u1,u2,u3,u4,u5,u6,u7,u8,u9⟩:=state_ok ho
 refine vO tok Tryz.func141 rfl rfl Tryz.ntmps141 Tryz.results141 rfl (by decide) (fun cx hnt hk0=>?_)
 repeat' (first|refine vS fun K hK=>?_|refine hK _ ?_;clear hK K|refine hY ?_;clear hX hY X Y|((first|refine vR tok (by rw [hnt];rfl) ?_|refine vC fun X Y hX hY=>?_|refine vK ?_|refine vT ?_|refine vF [] ?_|refine runS_c [] (wayFind_7) rfl ?_ ?_ ?_|refine runS_c [] (iStateOk_yes s hs) rfl ?_ ?_ ?_|refine runS_c [] (iStateOk_yes o ho) rfl ?_ ?_ ?_|(refine runS_c [] (may_7 s o (by omega) (by omega) r1) rfl ?_ ?_ ?_)|(refine runS_c [] (stateCopy_ok s (by omega) (by omega) (by omega) (by omega)) rfl ?_ ?_ ?_)|(refine runS_c [8,4,5,6,7] (do_7 s r2) rfl ?_ ?_ ?_))<;>(try simp only [go_sem,qa,qb,qc,qd,qe,qf,qg,qh,qi,qj,qk,ql,qm,qn,qo,qp,qq,qr,qs,reduceIte,reduceCtorEq,fnV,hm])))
theorem WayDo_no (s o:State) (n:Int) (hs:s.ok=true) (ho:o.ok=true) (hm:wayMay s o n=false):Call Tryz.prog 141 [s.av,o.av,I n] [] 0 (.tup [State.noneA,BB false]) [] 0:=by
 by_cases h:n < 1 ∨ 7 < n
 · refine vO tok Tryz.func141 rfl rfl Tryz.ntmps141 Tryz.results141 rfl (by decide) (fun cx hnt hk0=>?_)
   repeat' (first|refine vS fun K hK=>?_|refine hK _ ?_;clear hK K|refine hX ?_;clear hX hY X Y|((first|refine vR tok (by rw [hnt];rfl) ?_|refine vC fun X Y hX hY=>?_|refine vT ?_|refine vF [] ?_|(refine runS_c [] (wayFind_no n h) rfl ?_ ?_ ?_))<;>(try simp only [go_sem,qa,qb,qc,qd,qe,qf,qg,qh,qi,qj,qk,ql,qm,qn,qo,qp,qq,qr,qs,reduceIte,reduceCtorEq,fnV,hm,State.noneA])))
 · rcases (show n=1 ∨ n=2 ∨ n=3 ∨ n=4 ∨ n=5 ∨ n=6 ∨ n=7 by omega) with rfl|rfl|rfl|rfl|rfl|rfl|rfl
   · exact WayDo_1n s o hs ho hm
   · exact WayDo_2n s o hs ho hm
   · exact WayDo_3n s o hs ho hm
   · exact WayDo_4n s o hs ho hm
   · exact WayDo_5n s o hs ho hm
   · exact WayDo_6n s o hs ho hm
   · exact WayDo_7n s o hs ho hm
theorem wayDo_6 {s o:State} (h:wayMay s o 6=true):wayDo s o 6={ s with way:=4,want:=s.ver+1 }:=by
 have:o.want=s.ver+1:=by simp [wayMay] at h;exact h.2.2
 simp [wayDo,this]
theorem WayDo_yes (s o:State) (n:Int) (hs:s.ok=true) (ho:o.ok=true) (hm:wayMay s o n=true):Call Tryz.prog 141 [s.av,o.av,I n] [] 0 (.tup [.g (stateA (wayDo s o n) 0),BB true]) (stateH (wayDo s o n) 0) 4:=by
 by_cases h:n < 1 ∨ 7 < n
 · exfalso
   have:wayMay s o n=false:=by
     unfold wayMay
     rw [if_neg (by omega),if_neg (by omega),if_neg (by omega),if_neg (by omega),if_neg (by omega),if_neg (by omega),if_neg (by omega)]
   rw [this] at hm;cases hm
 · rcases (show n=1 ∨ n=2 ∨ n=3 ∨ n=4 ∨ n=5 ∨ n=6 ∨ n=7 by omega) with rfl|rfl|rfl|rfl|rfl|rfl|rfl
   · exact WayDo_1y s o hs ho hm
   · exact WayDo_2y s o hs ho hm
   · exact WayDo_3y s o hs ho hm
   · exact WayDo_4y s o hs ho hm
   · exact WayDo_5y s o hs ho hm
   · rw [wayDo_6 hm];exact WayDo_6y s o hs ho hm
   · exact WayDo_7y s o hs ho hm
def pl_mine_settled0:Plan:=(.tak 0 (.tak 1 (.tak 2 (.tak 3 (.tak 4 (.all (.cons 5 (.tak 6 (.tak 7 (.tak 8 (.tak 9 (.tak 10 (.tak 11 (.tak 12 (.tak 13 (.tak 14 (.tak 15 (.tak 16 (.tak 17 (.tak 18 (.all (.cons 19 (.tak 20 (.tak 21 .done)) .nil))))))))))))))) .nil)))))))
attribute [go_sem] pl_mine_settled0
def pl_mine_settled1:Plan:=(.tak 0 (.tak 1 (.tak 2 (.tak 3 (.tak 4 (.tak 5 (.tak 6 (.all (.cons 7 (.tak 8 (.tak 9 (.tak 10 (.all (.cons 11 (.all (.cons 12 (.tak 13 .done) .nil)) .nil))))) (.cons 11 (.all (.cons 7 (.tak 8 (.tak 9 (.tak 10 (.all (.cons 12 (.tak 13 .done) .nil))))) .nil)) .nil))))))))))
attribute [go_sem] pl_mine_settled1
def pl_mine_settled2:Plan:=(.tak 0 (.tak 1 (.tak 2 (.tak 3 (.tak 4 (.tak 5 (.tak 6 (.tak 7 (.tak 8 (.all (.cons 9 .done .nil)))))))))))
attribute [go_sem] pl_mine_settled2
def pl_mine_settled3:Plan:=(.tak 0 (.tak 1 (.tak 2 (.tak 3 (.tak 4 (.tak 5 (.tak 6 (.tak 7 (.tak 8 (.all (.cons 9 (.tak 10 (.tak 11 (.tak 12 (.all (.cons 13 (.all (.cons 14 (.tak 15 .done) .nil)) .nil))))) (.cons 13 (.all (.cons 9 (.tak 10 (.tak 11 (.tak 12 (.all (.cons 14 (.tak 15 .done) .nil))))) .nil)) .nil))))))))))))
attribute [go_sem] pl_mine_settled3
theorem mine_settled {c:Chain} {seq:Int}:c.state.settledV seq=1 ↔ c.mine seq=true:=by
 unfold State.settledV Chain.mine
 by_cases h:In seq 1 c.state.sent.length=true
 · rw [if_pos h,h,Bool.true_and]
   cases h1:c.state.live.getD (seq - 1).toNat false
   · cases h2:c.state.back.getD (seq - 1).toNat false<;>simp
   · simp
 · rw [if_neg h]
   have:In seq 1 c.state.sent.length=false:=by simpa using h
   rw [this];simp
theorem mayTell_ok (c:Chain) (s:State) (h seq:Int) (hc:c.state.ok=true) (hs:s.ok=true):Call Tryz.prog 137 [.c (.ptr 0 0 0 0),proofA s h,I seq] (linkH c 0 1) 8 (.o (BB (c.tellB s seq))) (linkH c 0 1) 8:=by
 obtain ⟨r1,r2,r3,r4,r5,r6,r7,r8,r9⟩:=state_ok hc
 obtain ⟨u1,u2,u3,u4,u5,u6,u7,u8,u9⟩:=state_ok hs
 unfold Chain.tellB
 have cS:=StateSettled_yes c.state seq hc
 cases hm:c.mine seq
 · have e:¬ c.state.settledV seq=1:=by rw [mine_settled,hm];simp
   refine vO tok Tryz.func137 rfl rfl Tryz.ntmps137 Tryz.results137 rfl (by decide) (fun cx hnt hk0=>?_)
   repeat' (first|refine vS fun K hK=>?_|refine hK _ ?_;clear hK K|((first|refine vR tok (by rw [hnt];rfl) ?_|refine vT ?_|refine vF [] ?_|refine runS_v [] (cS) ?_ ?_ ?_ ?_ ?_|(apply gR<;>intro hq<;>(try simp only [nT,nF,n1,n0] at hq)<;>(have hb:=hq)<;>(try simp only [dT,dF,eT,eF] at hb)<;>first|(exfalso;omega)|((try simp only [hq]);clear hq)))<;>(try simp only [go_sem,qa,qb,qc,qd,qe,qf,qg,qh,qi,qj,qk,ql,qm,qn,qo,qp,qq,qr,qs,reduceIte,reduceCtorEq])))
   all_goals try omega
   all_goals simp
 · have e:c.state.settledV seq=1:=mine_settled.2 hm
   have hi:1≤seq∧seq≤8:=by
     simp only [Chain.mine,Bool.and_eq_true,In_iff] at hm;omega
   have cF:=fateAt_ok s seq hs hi
   have hg:=u8 (seq - 1).toNat (by omega)
   rw [e] at cS
   rcases (show s.gotAt seq=0 ∨ s.gotAt seq=1 ∨ s.gotAt seq=2 by unfold State.gotAt;omega) with eg|eg|eg
   · rw [fateV_0 eg] at cF
     rw [eg]
     refine vO tok Tryz.func137 rfl rfl Tryz.ntmps137 Tryz.results137 rfl (by decide) (fun cx hnt hk0=>?_)
     repeat' (first|refine vS fun K hK=>?_|refine hK _ ?_;clear hK K|((first|refine vR tok (by rw [hnt];rfl) ?_|refine vT ?_|refine vF [] ?_|refine runS_v [] (cS) ?_ ?_ ?_ ?_ ?_|refine runS_c [] (cF) rfl ?_ ?_ ?_|(refine runS_c [] (settled_none) rfl ?_ ?_ ?_))<;>(try simp only [go_sem,qa,qb,qc,qd,qe,qf,qg,qh,qi,qj,qk,ql,qm,qn,qo,qp,qq,qr,qs,reduceIte,reduceCtorEq])))
     all_goals try omega
     all_goals simp
   · rw [fateV_1 eg] at cF
     rw [eg]
     refine vO tok Tryz.func137 rfl rfl Tryz.ntmps137 Tryz.results137 rfl (by decide) (fun cx hnt hk0=>?_)
     repeat' (first|refine vS fun K hK=>?_|refine hK _ ?_;clear hK K|((first|refine vR tok (by rw [hnt];rfl) ?_|refine vT ?_|refine vF [] ?_|refine runS_v [] (cS) ?_ ?_ ?_ ?_ ?_|refine runS_c [] (cF) rfl ?_ ?_ ?_|(refine runS_c [] (settled_ok) rfl ?_ ?_ ?_))<;>(try simp only [go_sem,qa,qb,qc,qd,qe,qf,qg,qh,qi,qj,qk,ql,qm,qn,qo,qp,qq,qr,qs,reduceIte,reduceCtorEq])))
     all_goals try omega
     all_goals simp
   · rw [fateV_2 eg] at cF
     rw [eg]
     refine vO tok Tryz.func137 rfl rfl Tryz.ntmps137 Tryz.results137 rfl (by decide) (fun cx hnt hk0=>?_)
     repeat' (first|refine vS fun K hK=>?_|refine hK _ ?_;clear hK K|((first|refine vR tok (by rw [hnt];rfl) ?_|refine vT ?_|refine vF [] ?_|refine runS_v [] (cS) ?_ ?_ ?_ ?_ ?_|refine runS_c [] (cF) rfl ?_ ?_ ?_|(refine runS_c [] (settled_bad) rfl ?_ ?_ ?_))<;>(try simp only [go_sem,qa,qb,qc,qd,qe,qf,qg,qh,qi,qj,qk,ql,qm,qn,qo,qp,qq,qr,qs,reduceIte,reduceCtorEq])))
     all_goals try omega
     all_goals simp
theorem mayLate_ok (c:Chain) (s:State) (h seq:Int) (hc:c.state.ok=true) (hs:s.ok=true):Call Tryz.prog 140 [.c (.ptr 0 0 0 0),proofA s h,I seq] (linkH c 0 1) 8 (.o (BB (c.lateB s h seq))) (linkH c 0 1) 8:=by
 obtain ⟨r1,r2,r3,r4,r5,r6,r7,r8,r9⟩:=state_ok hc
 obtain ⟨u1,u2,u3,u4,u5,u6,u7,u8,u9⟩:=state_ok hs
 unfold Chain.lateB
 have cS:=StateSettled_yes c.state seq hc
 cases hm:c.mine seq
 · have e:¬ c.state.settledV seq=1:=by rw [mine_settled,hm];simp
   refine vO tok Tryz.func140 rfl rfl Tryz.ntmps140 Tryz.results140 rfl (by decide) (fun cx hnt hk0=>?_)


   repeat' (first|refine vS fun K hK=>?_|refine hK _ ?_;clear hK K|refine hX ?_;clear hX hY X Y|((first|refine vR tok (by rw [hnt];rfl) ?_|refine vC fun X Y hX hY=>?_|refine vT ?_|refine vF [] ?_|(refine AWp.draw (id:=1) tok mixed pl_mine_settled0 [0,8] [0,2,4] (by kernel_rfl) (by kernel_rfl) (by rw [hnt];rfl) ?_)|refine effS_v [] (cS) ?_ ?_ ?_ ?_ ?_|(apply gT<;>intro hq<;>(try simp only [nT,nF,n1,n0] at hq)<;>(have hb:=hq)<;>(try simp only [dT,dF,eT,eF] at hb)<;>first|(exfalso;omega)|((try simp only [hq]);clear hq)))<;>(try simp only [go_sem,qa,qb,qc,qd,qe,qf,qg,qh,qi,qj,qk,ql,qm,qn,qo,qp,qq,qr,qs,reduceIte,reduceCtorEq])))
   all_goals try omega
   all_goals simp
 · have e:c.state.settledV seq=1:=mine_settled.2 hm
   have hi:1≤seq∧seq≤8∧seq≤c.state.sent.length:=by
     simp only [Chain.mine,Bool.and_eq_true,In_iff] at hm;omega
   have es:c.state.sent.getD (seq - 1).toNat default=c.sentAt seq:=rfl
   have cF:=fateAt_ok s seq hs (by omega)
   have hg:=u8 (seq - 1).toNat (by omega)
   rw [e] at cS
   by_cases ht:(c.sentAt seq).till≤h
   · rw [decide_eq_true ht]
     rcases (show s.gotAt seq=0 ∨ s.gotAt seq=1 ∨ s.gotAt seq=2 by unfold State.gotAt;omega) with eg|eg|eg
     · rw [fateV_0 eg] at cF
       rw [eg]
       refine vO tok Tryz.func140 rfl rfl Tryz.ntmps140 Tryz.results140 rfl (by decide) (fun cx hnt hk0=>?_)


       repeat' (first|refine vS fun K hK=>?_|refine hK _ ?_;clear hK K|refine hY ?_;clear hX hY X Y|((first|refine vR tok (by rw [hnt];rfl) ?_|refine vC fun X Y hX hY=>?_|refine vK ?_|refine vT ?_|refine vF [] ?_|refine runS_c [] (cF) rfl ?_ ?_ ?_|refine runS_c [] (settled_none) rfl ?_ ?_ ?_|(refine AWp.draw (id:=1) tok mixed pl_mine_settled0 [0,8] [0,2,4] (by kernel_rfl) (by kernel_rfl) (by rw [hnt];rfl) ?_)|refine effS_v [] (cS) ?_ ?_ ?_ ?_ ?_|(apply gC<;>intro hq<;>(try simp only [nT,nF,n1,n0] at hq)<;>(have hb:=hq)<;>(try simp only [dT,dF,eT,eF] at hb)<;>first|(exfalso;omega)|((try simp only [hq]);clear hq)))<;>(try simp only [go_sem,qa,qb,qc,qd,qe,qf,qg,qh,qi,qj,qk,ql,qm,qn,qo,qp,qq,qr,qs,reduceIte,reduceCtorEq,es]))|refine Fits.of ?_ ?_|(refine aL ?_ (fun hp=>?_)<;>((try simp only [rowSet_fI hp,rowSet_fI2 hp]);(try simp only [rowSet_fB hp])))|refine aE ?_ fun hp=>?_|refine aC ?_ fun hp=>?_|refine And.intro ?_ ?_|clear hK K)
       all_goals try omega
       all_goals try simp
     · rw [fateV_1 eg] at cF
       rw [eg]
       refine vO tok Tryz.func140 rfl rfl Tryz.ntmps140 Tryz.results140 rfl (by decide) (fun cx hnt hk0=>?_)


       repeat' (first|refine vS fun K hK=>?_|refine hK _ ?_;clear hK K|refine hY ?_;clear hX hY X Y|((first|refine vR tok (by rw [hnt];rfl) ?_|refine vC fun X Y hX hY=>?_|refine vK ?_|refine vT ?_|refine vF [] ?_|refine runS_c [] (cF) rfl ?_ ?_ ?_|refine runS_c [] (settled_ok) rfl ?_ ?_ ?_|(refine AWp.draw (id:=1) tok mixed pl_mine_settled0 [0,8] [0,2,4] (by kernel_rfl) (by kernel_rfl) (by rw [hnt];rfl) ?_)|refine effS_v [] (cS) ?_ ?_ ?_ ?_ ?_|(apply gC<;>intro hq<;>(try simp only [nT,nF,n1,n0] at hq)<;>(have hb:=hq)<;>(try simp only [dT,dF,eT,eF] at hb)<;>first|(exfalso;omega)|((try simp only [hq]);clear hq)))<;>(try simp only [go_sem,qa,qb,qc,qd,qe,qf,qg,qh,qi,qj,qk,ql,qm,qn,qo,qp,qq,qr,qs,reduceIte,reduceCtorEq,es]))|refine Fits.of ?_ ?_|(refine aL ?_ (fun hp=>?_)<;>((try simp only [rowSet_fI hp,rowSet_fI2 hp]);(try simp only [rowSet_fB hp])))|refine aE ?_ fun hp=>?_|refine aC ?_ fun hp=>?_|refine And.intro ?_ ?_|clear hK K)
       all_goals try omega
       all_goals try simp
     · rw [fateV_2 eg] at cF
       rw [eg]
       refine vO tok Tryz.func140 rfl rfl Tryz.ntmps140 Tryz.results140 rfl (by decide) (fun cx hnt hk0=>?_)


       repeat' (first|refine vS fun K hK=>?_|refine hK _ ?_;clear hK K|refine hY ?_;clear hX hY X Y|((first|refine vR tok (by rw [hnt];rfl) ?_|refine vC fun X Y hX hY=>?_|refine vK ?_|refine vT ?_|refine vF [] ?_|refine runS_c [] (cF) rfl ?_ ?_ ?_|refine runS_c [] (settled_bad) rfl ?_ ?_ ?_|(refine AWp.draw (id:=1) tok mixed pl_mine_settled0 [0,8] [0,2,4] (by kernel_rfl) (by kernel_rfl) (by rw [hnt];rfl) ?_)|refine effS_v [] (cS) ?_ ?_ ?_ ?_ ?_|(apply gC<;>intro hq<;>(try simp only [nT,nF,n1,n0] at hq)<;>(have hb:=hq)<;>(try simp only [dT,dF,eT,eF] at hb)<;>first|(exfalso;omega)|((try simp only [hq]);clear hq)))<;>(try simp only [go_sem,qa,qb,qc,qd,qe,qf,qg,qh,qi,qj,qk,ql,qm,qn,qo,qp,qq,qr,qs,reduceIte,reduceCtorEq,es]))|refine Fits.of ?_ ?_|(refine aL ?_ (fun hp=>?_)<;>((try simp only [rowSet_fI hp,rowSet_fI2 hp]);(try simp only [rowSet_fB hp])))|refine aE ?_ fun hp=>?_|refine aC ?_ fun hp=>?_|refine And.intro ?_ ?_|clear hK K)
       all_goals try omega
       all_goals try simp
   · rw [decide_eq_false ht]
     refine vO tok Tryz.func140 rfl rfl Tryz.ntmps140 Tryz.results140 rfl (by decide) (fun cx hnt hk0=>?_)


     repeat' (first|refine vS fun K hK=>?_|refine hK _ ?_;clear hK K|refine hX ?_;clear hX hY X Y|((first|refine vR tok (by rw [hnt];rfl) ?_|refine vC fun X Y hX hY=>?_|refine vT ?_|refine vF [] ?_|(refine AWp.draw (id:=1) tok mixed pl_mine_settled0 [0,8] [0,2,4] (by kernel_rfl) (by kernel_rfl) (by rw [hnt];rfl) ?_)|refine effS_v [] (cS) ?_ ?_ ?_ ?_ ?_|(apply gC<;>intro hq<;>(try simp only [nT,nF,n1,n0] at hq)<;>(have hb:=hq)<;>(try simp only [dT,dF,eT,eF] at hb)<;>first|(exfalso;omega)|((try simp only [hq]);clear hq)))<;>(try simp only [go_sem,qa,qb,qc,qd,qe,qf,qg,qh,qi,qj,qk,ql,qm,qn,qo,qp,qq,qr,qs,reduceIte,reduceCtorEq,es]))|refine Fits.of ?_ ?_|(refine aL ?_ (fun hp=>?_)<;>((try simp only [rowSet_fI hp,rowSet_fI2 hp]);(try simp only [rowSet_fB hp])))|refine aE ?_ fun hp=>?_|refine aC ?_ fun hp=>?_|refine And.intro ?_ ?_|clear hK K)
     all_goals try omega
     all_goals try simp
theorem tell_ok2 (c:Chain) (s:State) (h seq:Int) (hc:c.ok=true) (hs:s.ok=true):Call Tryz.prog 101 [.c (.ptr 0 0 0 0),proofA s h,I seq] (linkH c 0 1) 8 (.o (BB (c.tellB s seq))) (linkH (c.tell s seq) 0 8) 15:=by
 obtain ⟨q1,q2,q3,q4,q5,q6⟩:=chain_ok hc
 obtain ⟨r1,r2,r3,r4,r5,r6,r7,r8,r9⟩:=state_ok q3
 obtain ⟨u1,u2,u3,u4,u5,u6,u7,u8,u9⟩:=state_ok hs
 have cM:=mayTell_ok c s h seq q3 hs
 unfold Chain.tell
 cases hB:c.tellB s seq
 · rw [hB] at cM
   refine vO tok Tryz.func101 rfl rfl Tryz.ntmps101 Tryz.results101 rfl (by decide) (fun cx hnt hk0=>?_)
   repeat' (first|refine vS fun K hK=>?_|refine hK _ ?_;clear hK K|refine hX ?_;clear hX hY X Y|((first|refine vR tok (by rw [hnt];rfl) ?_|refine vC fun X Y hX hY=>?_|refine vT ?_|refine vF [] ?_|(refine runS_c [0,1,2,3,4,5,6,7] (cM) rfl ?_ ?_ ?_))<;>(try simp only [go_sem,qa,qb,qc,qd,qe,qf,qg,qh,qi,qj,qk,ql,qm,qn,qo,qp,qq,qr,qs,reduceIte,reduceCtorEq,Bool.false_eq_true,if_false])))
 · rw [hB] at cM
   have hm:c.mine seq=true:=by
     simp only [Chain.tellB,Bool.and_eq_true] at hB;exact hB.1
   have hi:1≤seq∧seq≤c.state.sent.length:=by
     simp only [Chain.mine,Bool.and_eq_true,In_iff] at hm;exact hm.1
   have hpk:(c.sentAt seq).ok=true:=(sentOk_iff (r7 (seq - 1).toNat (by omega))).1
   have cG:=StateGot_yes s seq hs (by omega)
   have es2:∀ v:List Bool,Chain.sentAt { c with state:={ c.state with live:=v } } seq=c.sentAt seq:=fun _=>rfl
   have cR:=refund_ok { c with state:={ c.state with live:=c.state.live.set (seq - 1).toNat false } } seq q2 hi r5 r3 hpk
   by_cases hg:s.gotAt seq=2
   · rw [hg] at cG
     unfold Chain.settle
     rw [decide_eq_true hg]
     refine vO tok Tryz.func101 rfl rfl Tryz.ntmps101 Tryz.results101 rfl (by decide) (fun cx hnt hk0=>?_)
     repeat' (first|refine vS fun K hK=>?_|refine hK _ ?_;clear hK K|refine hX ?_;clear hX hY X Y|refine hY ?_;clear hX hY X Y|((first|refine vR tok (by rw [hnt];rfl) ?_|refine vC fun X Y hX hY=>?_|refine vK ?_|refine vT ?_|refine vF [] ?_|refine runS_c [0,1,2,3,4,5,6,7] (cM) rfl ?_ ?_ ?_|refine runS_c [] (cG) rfl ?_ ?_ ?_|(refine runS_c [0,1,2,3,4,5,6,7] (cR) rfl ?_ ?_ ?_))<;>(try simp only [go_sem,qa,qb,qc,qd,qe,qf,qg,qh,qi,qj,qk,ql,qm,qn,qo,qp,qq,qr,qs,reduceIte,reduceCtorEq,if_true,es2]))|refine Fits.of ?_ ?_|(refine aL ?_ (fun hp=>?_)<;>((try simp only [rowSet_fI hp,rowSet_fI2 hp]);(try simp only [rowSet_fB hp])))|refine aE ?_ fun hp=>?_|refine aC ?_ fun hp=>?_|refine And.intro ?_ ?_|clear hK K)
     all_goals try omega
   · unfold Chain.settle
     rw [decide_eq_false hg]
     refine vO tok Tryz.func101 rfl rfl Tryz.ntmps101 Tryz.results101 rfl (by decide) (fun cx hnt hk0=>?_)
     repeat' (first|refine vS fun K hK=>?_|refine hK _ ?_;clear hK K|refine hY ?_;clear hX hY X Y|((first|refine vR tok (by rw [hnt];rfl) ?_|refine vC fun X Y hX hY=>?_|refine vK ?_|refine vT ?_|refine vF [] ?_|refine runS_c [0,1,2,3,4,5,6,7] (cM) rfl ?_ ?_ ?_|refine runS_c [] (cG) rfl ?_ ?_ ?_|(apply gC<;>intro hq<;>(try simp only [nT,nF,n1,n0] at hq)<;>(have hb:=hq)<;>(try simp only [dT,dF,eT,eF] at hb)<;>first|(exfalso;omega)|((try simp only [hq]);clear hq)))<;>(try simp only [go_sem,qa,qb,qc,qd,qe,qf,qg,qh,qi,qj,qk,ql,qm,qn,qo,qp,qq,qr,qs,reduceIte,reduceCtorEq,Bool.false_eq_true,if_false,es2]))|refine Fits.of ?_ ?_|(refine aL ?_ (fun hp=>?_)<;>((try simp only [rowSet_fI hp,rowSet_fI2 hp]);(try simp only [rowSet_fB hp])))|refine aE ?_ fun hp=>?_|refine aC ?_ fun hp=>?_|refine And.intro ?_ ?_|clear hK K)
     all_goals try omega
theorem late_ok2 (c:Chain) (s:State) (h seq:Int) (hc:c.ok=true) (hs:s.ok=true):Call Tryz.prog 102 [.c (.ptr 0 0 0 0),proofA s h,I seq] (linkH c 0 1) 8 (.o (BB (c.lateB s h seq))) (linkH (c.late s h seq) 0 8) 15:=by
 obtain ⟨q1,q2,q3,q4,q5,q6⟩:=chain_ok hc
 obtain ⟨r1,r2,r3,r4,r5,r6,r7,r8,r9⟩:=state_ok q3
 have cM:=mayLate_ok c s h seq q3 hs
 unfold Chain.late
 cases hB:c.lateB s h seq
 · rw [hB] at cM
   refine vO tok Tryz.func102 rfl rfl Tryz.ntmps102 Tryz.results102 rfl (by decide) (fun cx hnt hk0=>?_)
   repeat' (first|refine vS fun K hK=>?_|refine hK _ ?_;clear hK K|refine hX ?_;clear hX hY X Y|((first|refine vR tok (by rw [hnt];rfl) ?_|refine vC fun X Y hX hY=>?_|refine vT ?_|refine vF [] ?_|(refine runS_c [0,1,2,3,4,5,6,7] (cM) rfl ?_ ?_ ?_))<;>(try simp only [go_sem,qa,qb,qc,qd,qe,qf,qg,qh,qi,qj,qk,ql,qm,qn,qo,qp,qq,qr,qs,reduceIte,reduceCtorEq,Bool.false_eq_true,if_false])))
 · rw [hB] at cM
   have hm:c.mine seq=true:=by
     simp only [Chain.lateB,Bool.and_eq_true] at hB;exact hB.1
   have hi:1≤seq∧seq≤c.state.sent.length:=by
     simp only [Chain.mine,Bool.and_eq_true,In_iff] at hm;exact hm.1
   have hpk:(c.sentAt seq).ok=true:=(sentOk_iff (r7 (seq - 1).toNat (by omega))).1
   have es2:∀ v:List Bool,Chain.sentAt { c with state:={ c.state with live:=v } } seq=c.sentAt seq:=fun _=>rfl
   have cR:=refund_ok { c with state:={ c.state with live:=c.state.live.set (seq - 1).toNat false } } seq q2 hi r5 r3 hpk
   unfold Chain.settle
   refine vO tok Tryz.func102 rfl rfl Tryz.ntmps102 Tryz.results102 rfl (by decide) (fun cx hnt hk0=>?_)
   repeat' (first|refine vS fun K hK=>?_|refine hK _ ?_;clear hK K|refine hY ?_;clear hX hY X Y|((first|refine vR tok (by rw [hnt];rfl) ?_|refine vC fun X Y hX hY=>?_|refine vK ?_|refine vT ?_|refine vF [] ?_|refine runS_c [0,1,2,3,4,5,6,7] (cM) rfl ?_ ?_ ?_|(refine runS_c [0,1,2,3,4,5,6,7] (cR) rfl ?_ ?_ ?_))<;>(try simp only [go_sem,qa,qb,qc,qd,qe,qf,qg,qh,qi,qj,qk,ql,qm,qn,qo,qp,qq,qr,qs,reduceIte,reduceCtorEq,if_true,es2]))|refine Fits.of ?_ ?_|(refine aL ?_ (fun hp=>?_)<;>((try simp only [rowSet_fI hp,rowSet_fI2 hp]);(try simp only [rowSet_fB hp])))|refine aE ?_ fun hp=>?_|refine aC ?_ fun hp=>?_|refine And.intro ?_ ?_|clear hK K)
   all_goals try omega
theorem step_ok2 (c:Chain) (s:State) (h n:Int) (hc:c.ok=true) (hs:s.ok=true):Call Tryz.prog 103 [.c (.ptr 0 0 0 0),proofA s h,I n] (linkH c 0 1) 8 (.o (BB (wayMay c.state s n))) (linkH (c.step s n) 0 8) 15:=by
 obtain ⟨q1,q2,q3,q4,q5,q6⟩:=chain_ok hc
 unfold Chain.step
 cases hB:wayMay c.state s n
 · have cW:=WayDo_no c.state s n q3 hs hB
   refine vO tok Tryz.func103 rfl rfl Tryz.ntmps103 Tryz.results103 rfl (by decide) (fun cx hnt hk0=>?_)

   repeat' (first|refine vS fun K hK=>?_|refine hK _ ?_;clear hK K|refine hY ?_;clear hX hY X Y|((first|refine vR tok (by rw [hnt];rfl) ?_|refine vC fun X Y hX hY=>?_|refine vK ?_|refine vT ?_|refine vF [] ?_|(refine AWp.draw (id:=1) tok mixed pl_mine_settled1 [0,8] [0,2,4] (by kernel_rfl) (by kernel_rfl) (by rw [hnt];rfl) ?_)|(refine effS_v [] (cW) ?_ ?_ ?_ ?_ ?_))<;>(try simp only [go_sem,qa,qb,qc,qd,qe,qf,qg,qh,qi,qj,qk,ql,qm,qn,qo,qp,qq,qr,qs,reduceIte,reduceCtorEq,State.noneA,Bool.false_eq_true,if_false]))|refine And.intro ?_ ?_)
 · have cW:=WayDo_yes c.state s n q3 hs hB
   refine vO tok Tryz.func103 rfl rfl Tryz.ntmps103 Tryz.results103 rfl (by decide) (fun cx hnt hk0=>?_)

   repeat' (first|refine vS fun K hK=>?_|refine hK _ ?_;clear hK K|refine hX ?_;clear hX hY X Y|((first|refine vR tok (by rw [hnt];rfl) ?_|refine vC fun X Y hX hY=>?_|refine vT ?_|refine vF [] ?_|(refine AWp.draw (id:=1) tok mixed pl_mine_settled1 [0,8] [0,2,4] (by kernel_rfl) (by kernel_rfl) (by rw [hnt];rfl) ?_)|(refine effS_v [] (cW) ?_ ?_ ?_ ?_ ?_))<;>(try simp only [go_sem,qa,qb,qc,qd,qe,qf,qg,qh,qi,qj,qk,ql,qm,qn,qo,qp,qq,qr,qs,reduceIte,reduceCtorEq,if_true]))|refine And.intro ?_ ?_)
   all_goals try omega
theorem hasB_ok {s:State} {p:Packet} (hs:s.ok=true) (h:s.hasB p=true):p.ok=true∧1≤p.seq∧p.seq≤s.sent.length:=by
 obtain ⟨u1,u2,u3,u4,u5,u6,u7,u8,u9⟩:=state_ok hs
 simp only [State.hasB,Bool.and_eq_true,In_iff] at h
 obtain ⟨h1,h2,h3⟩:=h
 have:=(sentOk_iff (u7 (p.seq - 1).toNat (by omega))).1
 rw [of_decide_eq_true h2] at this
 exact ⟨this,h1⟩
theorem get_ok2 (c:Chain) (s:State) (h:Int) (p:Packet) (hc:c.ok=true) (hs:s.ok=true):Call Tryz.prog 100 [.c (.ptr 0 0 0 0),proofA s h,p.av] (linkH c 0 1) 8 (.o (BB (c.getB s p))) (linkH (c.get s p) 0 8) 15:=by
 obtain ⟨q1,q2,q3,q4,q5,q6⟩:=chain_ok hc
 obtain ⟨r1,r2,r3,r4,r5,r6,r7,r8,r9⟩:=state_ok q3
 obtain ⟨u1,u2,u3,u4,u5,u6,u7,u8,u9⟩:=state_ok hs
 have cM:=mayGet_ok c s h p q3 hs (by omega)
 unfold Chain.get
 cases hB:c.getB s p
 · rw [hB] at cM
   refine vO tok Tryz.func100 rfl rfl Tryz.ntmps100 Tryz.results100 rfl (by decide) (fun cx hnt hk0=>?_)
   repeat' (first|refine vS fun K hK=>?_|refine hK _ ?_;clear hK K|refine hX ?_;clear hX hY X Y|((first|refine vR tok (by rw [hnt];rfl) ?_|refine vC fun X Y hX hY=>?_|refine vT ?_|refine vF [] ?_|(refine runS_c [0,1,2,3,4,5,6,7] (cM) rfl ?_ ?_ ?_))<;>(try simp only [go_sem,qa,qb,qc,qd,qe,qf,qg,qh,qi,qj,qk,ql,qm,qn,qo,qp,qq,qr,qs,reduceIte,reduceCtorEq,Bool.false_eq_true,if_false])))
 · rw [hB] at cM
   have hh:s.hasB p=true:=by
     simp only [Chain.getB,Bool.and_eq_true] at hB;exact hB.2.1
   obtain ⟨hp,hi1,hi2⟩:=hasB_ok hs hh
   obtain ⟨a1,a2,a3,a4,a5,a6,a7⟩:=packet_iff.1 hp
   obtain ⟨b1,b2,b3,b4,b5⟩:=bank_ok q2
   have b6:=parts_len b1
   have b7:=parts_len b2
   have b8:=parts_all b1
   unfold Chain.getD
   by_cases hd:p.dst=0
   · have hpay:payB c.bank p=false:=by simp [payB,hd]
     rw [hpay]
     refine vO tok Tryz.func100 rfl rfl Tryz.ntmps100 Tryz.results100 rfl (by decide) (fun cx hnt hk0=>?_)

     repeat' (first|refine vS fun K hK=>?_|refine hK _ ?_;clear hK K|refine hX ?_;clear hX hY X Y|refine hY ?_;clear hX hY X Y|((first|refine vR tok (by rw [hnt];rfl) ?_|refine vC fun X Y hX hY=>?_|refine vK ?_|refine vT ?_|refine vF [] ?_|refine runS_c [0,1,2,3,4,5,6,7] (cM) rfl ?_ ?_ ?_|(refine AWp.draw (id:=3) tok mixed pl_mine_settled2 [0,8,9] [0,5] (by kernel_rfl) (by kernel_rfl) (by rw [hnt];rfl) ?_)|(apply gC<;>intro hq<;>(try simp only [nT,nF,n1,n0] at hq)<;>(have hb:=hq)<;>(try simp only [dT,dF,eT,eF] at hb)<;>first|(exfalso;omega)|((try simp only [hq]);clear hq)))<;>(try simp only [go_sem,qa,qb,qc,qd,qe,qf,qg,qh,qi,qj,qk,ql,qm,qn,qo,qp,qq,qr,qs,reduceIte,reduceCtorEq,Bool.false_eq_true,if_false,if_true]))|refine Fits.of ?_ ?_|(refine aL ?_ (fun hp=>?_)<;>((try simp only [rowSet_fI hp,rowSet_fI2 hp]);(try simp only [rowSet_fB hp])))|refine aE ?_ fun hp=>?_|refine aC ?_ fun hp=>?_|refine And.intro ?_ ?_|clear hK K)
     all_goals try omega
   · have hg:∀ k,In k 1 2=true→c.bank.giveB k p.dst p.sum=c.bank.backB k p.dst p.sum:=by
       intro k hk
       unfold Bank.giveB
       rw [q2,hk,In_iff.2 (show 1≤p.dst∧p.dst≤3 by omega),decide_eq_true (show 0≤p.sum by omega),decide_eq_true (show p.sum≤30 by omega)]
       rfl
     have hpay:payB c.bank p=c.bank.backB (otherK p.kind) p.dst p.sum:=by simp [payB,hd]
     rw [hpay]
     rcases (show p.kind=1 ∨ p.kind=2 by omega) with hk|hk
     · have ek:otherK p.kind=2:=by unfold otherK;rw [if_neg (by omega)]
       rw [ek]
       have hg:=hg 2 (by decide)
       cases hb0:c.bank.backB 2 p.dst p.sum
       · rw [hb0] at hg
         refine vO tok Tryz.func100 rfl rfl Tryz.ntmps100 Tryz.results100 rfl (by decide) (fun cx hnt hk0=>?_)

         repeat' (first|refine vS fun K hK=>?_|refine hK _ ?_;clear hK K|refine hX ?_;clear hX hY X Y|refine hY ?_;clear hX hY X Y|((first|refine vR tok (by rw [hnt];rfl) ?_|refine vC fun X Y hX hY=>?_|refine vK ?_|refine vT ?_|refine vF [] ?_|refine runS_c [0,1,2,3,4,5,6,7] (cM) rfl ?_ ?_ ?_|(refine AWp.draw (id:=3) tok mixed pl_mine_settled2 [0,8,9] [0,5] (by kernel_rfl) (by kernel_rfl) (by rw [hnt];rfl) ?_)|(refine AWp.draw (id:=9) tok mixed pl_mine_settled3 [0,8,9] [0,5,7] (by kernel_rfl) (by kernel_rfl) (by rw [hnt];rfl) ?_)|(refine effS_v [] (iBankBack_no c.bank _ _ _ (by omega) (by omega) (by omega) hg) ?_ ?_ ?_ ?_ ?_)|(apply gC<;>intro hq<;>(try simp only [nT,nF,n1,n0] at hq)<;>(have hb:=hq)<;>(try simp only [dT,dF,eT,eF] at hb)<;>first|(exfalso;omega)|((try simp only [hq]);clear hq)))<;>(try simp only [go_sem,qa,qb,qc,qd,qe,qf,qg,qh,qi,qj,qk,ql,qm,qn,qo,qp,qq,qr,qs,reduceIte,reduceCtorEq,Bool.false_eq_true,if_false]))|refine Fits.of ?_ ?_|(refine aL ?_ (fun hp=>?_)<;>((try simp only [rowSet_fI hp,rowSet_fI2 hp]);(try simp only [rowSet_fB hp])))|refine aE ?_ fun hp=>?_|refine aC ?_ fun hp=>?_|refine And.intro ?_ ?_|clear hK K)
         all_goals try omega
       · rw [hb0] at hg
         refine vO tok Tryz.func100 rfl rfl Tryz.ntmps100 Tryz.results100 rfl (by decide) (fun cx hnt hk0=>?_)

         repeat' (first|refine vS fun K hK=>?_|refine hK _ ?_;clear hK K|refine hX ?_;clear hX hY X Y|refine hY ?_;clear hX hY X Y|((first|refine vR tok (by rw [hnt];rfl) ?_|refine vC fun X Y hX hY=>?_|refine vK ?_|refine vT ?_|refine vF [] ?_|refine runS_c [0,1,2,3,4,5,6,7] (cM) rfl ?_ ?_ ?_|(refine AWp.draw (id:=3) tok mixed pl_mine_settled2 [0,8,9] [0,5] (by kernel_rfl) (by kernel_rfl) (by rw [hnt];rfl) ?_)|(refine AWp.draw (id:=9) tok mixed pl_mine_settled3 [0,8,9] [0,5,7] (by kernel_rfl) (by kernel_rfl) (by rw [hnt];rfl) ?_)|(refine AWp.draw (id:=12) tok mixed pl_mine_settled2 [0,8,9] [0,5] (by kernel_rfl) (by kernel_rfl) (by rw [hnt];rfl) ?_)|(refine effS_v [] (iBankBack_yes c.bank _ _ _ (by omega) (by omega) (by omega) hg) ?_ ?_ ?_ ?_ ?_)|(apply gC<;>intro hq<;>(try simp only [nT,nF,n1,n0] at hq)<;>(have hb:=hq)<;>(try simp only [dT,dF,eT,eF] at hb)<;>first|(exfalso;omega)|((try simp only [hq]);clear hq)))<;>(try simp only [go_sem,qa,qb,qc,qd,qe,qf,qg,qh,qi,qj,qk,ql,qm,qn,qo,qp,qq,qr,qs,reduceIte,reduceCtorEq,if_true,List.set_set]))|refine Fits.of ?_ ?_|(refine aL ?_ (fun hp=>?_)<;>((try simp only [rowSet_fI hp,rowSet_fI2 hp]);(try simp only [rowSet_fB hp])))|refine aE ?_ fun hp=>?_|refine aC ?_ fun hp=>?_|refine And.intro ?_ ?_|clear hK K)
         all_goals try omega
     · have ek:otherK p.kind=1:=by unfold otherK;rw [if_pos hk]
       rw [ek]
       have hg:=hg 1 (by decide)
       cases hb0:c.bank.backB 1 p.dst p.sum
       · rw [hb0] at hg
         refine vO tok Tryz.func100 rfl rfl Tryz.ntmps100 Tryz.results100 rfl (by decide) (fun cx hnt hk0=>?_)

         repeat' (first|refine vS fun K hK=>?_|refine hK _ ?_;clear hK K|refine hY ?_;clear hX hY X Y|((first|refine vR tok (by rw [hnt];rfl) ?_|refine vC fun X Y hX hY=>?_|refine vK ?_|refine vT ?_|refine vF [] ?_|refine runS_c [0,1,2,3,4,5,6,7] (cM) rfl ?_ ?_ ?_|(refine AWp.draw (id:=3) tok mixed pl_mine_settled2 [0,8,9] [0,5] (by kernel_rfl) (by kernel_rfl) (by rw [hnt];rfl) ?_)|(refine AWp.draw (id:=9) tok mixed pl_mine_settled3 [0,8,9] [0,5,7] (by kernel_rfl) (by kernel_rfl) (by rw [hnt];rfl) ?_)|(refine effS_v [] (iBankBack_no c.bank _ _ _ (by omega) (by omega) (by omega) hg) ?_ ?_ ?_ ?_ ?_)|(apply gC<;>intro hq<;>(try simp only [nT,nF,n1,n0] at hq)<;>(have hb:=hq)<;>(try simp only [dT,dF,eT,eF] at hb)<;>first|(exfalso;omega)|((try simp only [hq]);clear hq)))<;>(try simp only [go_sem,qa,qb,qc,qd,qe,qf,qg,qh,qi,qj,qk,ql,qm,qn,qo,qp,qq,qr,qs,reduceIte,reduceCtorEq,Bool.false_eq_true,if_false]))|refine Fits.of ?_ ?_|(refine aL ?_ (fun hp=>?_)<;>((try simp only [rowSet_fI hp,rowSet_fI2 hp]);(try simp only [rowSet_fB hp])))|refine aE ?_ fun hp=>?_|refine aC ?_ fun hp=>?_|refine And.intro ?_ ?_|clear hK K)
         all_goals try omega
       · rw [hb0] at hg
         refine vO tok Tryz.func100 rfl rfl Tryz.ntmps100 Tryz.results100 rfl (by decide) (fun cx hnt hk0=>?_)

         repeat' (first|refine vS fun K hK=>?_|refine hK _ ?_;clear hK K|refine hX ?_;clear hX hY X Y|refine hY ?_;clear hX hY X Y|((first|refine vR tok (by rw [hnt];rfl) ?_|refine vC fun X Y hX hY=>?_|refine vK ?_|refine vT ?_|refine vF [] ?_|refine runS_c [0,1,2,3,4,5,6,7] (cM) rfl ?_ ?_ ?_|(refine AWp.draw (id:=3) tok mixed pl_mine_settled2 [0,8,9] [0,5] (by kernel_rfl) (by kernel_rfl) (by rw [hnt];rfl) ?_)|(refine AWp.draw (id:=9) tok mixed pl_mine_settled3 [0,8,9] [0,5,7] (by kernel_rfl) (by kernel_rfl) (by rw [hnt];rfl) ?_)|(refine AWp.draw (id:=12) tok mixed pl_mine_settled2 [0,8,9] [0,5] (by kernel_rfl) (by kernel_rfl) (by rw [hnt];rfl) ?_)|(refine effS_v [] (iBankBack_yes c.bank _ _ _ (by omega) (by omega) (by omega) hg) ?_ ?_ ?_ ?_ ?_)|(apply gC<;>intro hq<;>(try simp only [nT,nF,n1,n0] at hq)<;>(have hb:=hq)<;>(try simp only [dT,dF,eT,eF] at hb)<;>first|(exfalso;omega)|((try simp only [hq]);clear hq)))<;>(try simp only [go_sem,qa,qb,qc,qd,qe,qf,qg,qh,qi,qj,qk,ql,qm,qn,qo,qp,qq,qr,qs,reduceIte,reduceCtorEq,if_true,List.set_set]))|refine Fits.of ?_ ?_|(refine aL ?_ (fun hp=>?_)<;>((try simp only [rowSet_fI hp,rowSet_fI2 hp]);(try simp only [rowSet_fB hp])))|refine aE ?_ fun hp=>?_|refine aC ?_ fun hp=>?_|refine And.intro ?_ ?_|clear hK K)
         all_goals try omega
end Go.Hw
namespace Go.Proofs
open Go.Shelf
def Tryz.laysNm225_ren:Go.Shelf.Ren:=⟨fun|25=>89|31=>125|32=>126|37=>168|n=>n,fun|22=>78|3=>3|4=>4|40=>164|0=>0|n=>n,fun|n=>n⟩
theorem Tryz.laysNm225:Go.Proofs.Lays2.n25 Tryz.prog Tryz.laysNm225_ren:={
 mixed:=by kernel_rfl
 f25:=Tryz.func89.trans (congrArg some (by kernel_rfl))
 f31:=Tryz.func125.trans (congrArg some (by kernel_rfl))
 f32:=Tryz.func126.trans (congrArg some (by kernel_rfl))
 f37:=Tryz.func168.trans (congrArg some (by kernel_rfl))
 t0:=Tryz.underlying0
 a0:=Tryz.isAgg0
 z0:=Tryz.sizeOf0
 v0:=Tryz.zeroValue0
 t3:=Tryz.underlying3
 a3:=Tryz.isAgg3
 z3:=Tryz.sizeOf3
 v3:=Tryz.zeroValue3
 t4:=Tryz.underlying4
 a4:=Tryz.isAgg4
 z4:=Tryz.sizeOf4
 v4:=Tryz.zeroValue4
 t22:=Tryz.underlying78
 a22:=Tryz.isAgg78
 z22:=Tryz.sizeOf78
 v22:=Tryz.zeroValue78
 t40:=Tryz.underlying164
 a40:=Tryz.isAgg164
 z40:=Tryz.sizeOf164
 v40:=Tryz.zeroValue164 }
def Tryz.laysNm221_ren:Go.Shelf.Ren:=⟨fun|21=>90|27=>127|28=>128|35=>169|39=>191|n=>n,fun|22=>78|3=>3|4=>4|0=>0|n=>n,fun|n=>n⟩
theorem Tryz.laysNm221:Go.Proofs.Lays2.n21 Tryz.prog Tryz.laysNm221_ren:={
 mixed:=by kernel_rfl
 f21:=Tryz.func90.trans (congrArg some (by kernel_rfl))
 f27:=Tryz.func127.trans (congrArg some (by kernel_rfl))
 f28:=Tryz.func128.trans (congrArg some (by kernel_rfl))
 f35:=Tryz.func169.trans (congrArg some (by kernel_rfl))
 f39:=Tryz.func191.trans (congrArg some (by kernel_rfl))
 t0:=Tryz.underlying0
 a0:=Tryz.isAgg0
 z0:=Tryz.sizeOf0
 v0:=Tryz.zeroValue0
 t3:=Tryz.underlying3
 a3:=Tryz.isAgg3
 z3:=Tryz.sizeOf3
 v3:=Tryz.zeroValue3
 t4:=Tryz.underlying4
 a4:=Tryz.isAgg4
 z4:=Tryz.sizeOf4
 v4:=Tryz.zeroValue4
 t22:=Tryz.underlying78
 a22:=Tryz.isAgg78
 z22:=Tryz.sizeOf78
 v22:=Tryz.zeroValue78
 i3:=by kernel_rfl }
end Go.Proofs
namespace Go.Hw
open Go.Proofs Go.RowKit
theorem setCells_get {b:Nat} {e:TypeId} {fr:Nat × Nat}:∀ (vs:List Value) (o:Nat) (w:World) (cs:Array Value),w.heap[b]? = some (.cells cs e fr) →
   ∃ cs',(w.setCells b o vs).heap[b]? = some (.cells cs' e fr)∧cs'.size=cs.size∧(∀ k,k < o ∨ o+vs.length≤k→cs'[k]? = cs[k]?)∧(∀ j,j < vs.length→o+j < cs.size→cs'[o+j]? = vs[j]?) ∧
     (∀ k,k ≠ b→(w.setCells b o vs).heap[k]? = w.heap[k]?)∧(w.setCells b o vs).heap.size=w.heap.size∧(w.setCells b o vs).os=w.os∧(w.setCells b o vs).tape=w.tape∧(w.setCells b o vs).output=w.output
 | [],o,w,cs,h=>⟨cs,h,rfl,fun _ _=>rfl,fun j hj=>absurd hj (Nat.not_lt_zero j),fun _ _=>rfl,rfl,rfl,rfl,rfl⟩
 | v ::r,o,w,cs,h=>by
   have h1:(w.setCell ⟨b,o,none⟩ v).heap[b]? = some (.cells (cs.setIfInBounds o v) e fr):=by
     simp [World.setCell,Array.getElem?_modify,h]
   obtain ⟨cs',g1,g2,g3,g4,g5,g6,g7,g8,g9⟩:=setCells_get r (o+1) _ _ h1
   refine ⟨cs',g1,by simpa using g2,fun k hk=>?_,fun j hj hlt=>?_,fun k hk=>?_,?_,g7,g8,g9⟩
   · rw [g3 k (by simp only [List.length_cons] at hk;omega),Array.getElem?_setIfInBounds]
     rw [if_neg (by simp only [List.length_cons] at hk;omega)]
   · cases j with
     | zero =>
       rw [Nat.add_zero,g3 o (by omega),Array.getElem?_setIfInBounds]
       simp at hlt
       simp [hlt]
     | succ j =>
       have:=g4 j (by simpa using hj) (by simp;omega)
       rw [show o+(j+1)=o+1+j by omega]
       simpa using this
   · rw [World.setCells,g5 k hk]
     exact Below.heap_setCell _ _ _ _ hk
   · rw [World.setCells,g6];simp [World.setCell]
theorem ints_get {l:List Int} {j:Nat} (h:j < l.length):(l.map (Value.int .i64))[j]? = some (.int .i64 (l.getD j 0)):=by
 simp [List.getD,h]
theorem ins_fin {w w':World} {A:Nat→Prop} {ρ:Rho} {l:List Int} {x:Int} {i:Nat} (hA:∀ b,A b→b < w.heap.size) (hn:∀ h,2≤h→ρ h=none) (hH:HeapAt w A ρ [(0,rI l),(1,rI [x])]) {b2 cap2:Nat} {cs2:Array Value} {e2:TypeId} {e:Ending}
   (he:e=.returned (.slice (some ⟨b2,0,none⟩) (l.length+1) cap2)) (hb2:w'.heap[b2]? = some (.cells cs2 e2 (0,0))) (hc1:l.length+1≤cap2) (hc2:cap2≤cs2.size) (hcM:cap2≤9223372036854775807)
   (hcs:∀ j,j < l.length+1→cs2[j]? = some (.int .i64 ((l.take i++x ::l.drop i).getD j 0))) (hlen:i≤l.length) (hwh:(l.length ≠ 0∧∃ m,ρ 0=some (b2,m)) ∨ w.heap.size≤b2)
   (hold:∀ k,k < w.heap.size→¬ blkOf ρ [(0,rI l),(1,rI [x])] k→w'.heap[k]? = w.heap[k]?) (hsz:w.heap.size≤w'.heap.size) (hos:w'.os=w.os) (htp:w'.tape=w.tape) (hou:w'.output=w.output) :
   ∃ (_:Unit) (v:Value) (A':Nat→Prop) (ρ':Rho),True∧e=.returned v∧(AV.o (.c (.sl 2 1 0 (l.length+1)))).At w' A' ρ' v∧HeapAt w' A' ρ' [(2,rI (l.take i++x ::l.drop i))]∧w'.os=w.os∧w'.tape=w.tape∧w'.output=w.output∧w.heap.size≤w'.heap.size ∧
     (∀ b,b < w.heap.size→¬ blkOf ρ [(0,rI l),(1,rI [x])] b→w'.heap[b]? = w.heap[b]?) ∧
     (∀ b,A' b→b < w'.heap.size∧(A b ∨ blkOf ρ [(0,rI l),(1,rI [x])] b ∨ w.heap.size≤b)) ∧
     (∀ y ∈ ([(2,rI (l.take i++x ::l.drop i))]:Heap),y.2.real→∀ b m,ρ' y.1=some (b,m)→blkOf ρ [(0,rI l),(1,rI [x])] b ∨ w.heap.size≤b) ∧
     (∀ h,h < 2→ρ' h=ρ h)∧(∀ h,3≤h→ρ' h=none):=by
 have hl2:(l.take i++x ::l.drop i).length=l.length+1:=by simp;omega
 have hb2A:¬ A b2:=by
   rcases hwh with ⟨h0,m,hm⟩|h
   · obtain ⟨b,m',h1,_,h3,_⟩:=hH.objs (0,rI l) (by simp) h0
     rw [hm] at h1;injection h1 with h1;injection h1 with h1 _;subst h1;exact h3
   · intro ha;have:=hA _ ha;omega
 have hlt:b2 < w'.heap.size:=(Array.getElem?_eq_some_iff.1 hb2).1
 refine ⟨(),_,A,ext ρ 2 (b2,cs2.size),trivial,he,?_,⟨?_,by simp⟩,hos,htp,hou,hsz,hold,fun b hb=>⟨Nat.lt_of_lt_of_le (hA b hb) hsz,.inl hb⟩,?_,fun h hh=>ext_ne (by omega),fun h hh=>by rw [ext_ne (by omega)];exact hn h (by omega)⟩
 · refine .inr ⟨by omega,b2,cs2.size,cap2,ext_self,by rw [Nat.zero_mul],⟨hc1,hcM⟩,by omega⟩
 · intro y hy _
   have:y=(2,rI (l.take i++x ::l.drop i)):=by simpa using hy
   subst this
   refine ⟨b2,cs2.size,ext_self,⟨cs2,e2,hb2,rfl,by rw [hl2];omega,fun k hk j hj=>?_⟩,hb2A,hlt⟩
   have:j=0:=by omega
   subst this
   rw [hl2] at hk
   exact ⟨_,by rw [Nat.mul_one,Nat.add_zero];exact hcs k hk,rfl,rfl⟩
 · intro y hy _ b m hbm
   have:y=(2,rI (l.take i++x ::l.drop i)):=by simpa using hy
   subst this
   rw [ext_self] at hbm;injection hbm with hbm;injection hbm with h1 _;subst h1
   rcases hwh with ⟨h0,m,hm⟩|h
   · exact .inl ⟨(0,rI l),by simp,h0,m,hm⟩
   · exact .inr h
end Go.Hw
namespace Go.Hw
open Go.Proofs Go.RowKit
theorem all2_3 {α β:Type} {R:α→β→Prop} {a b c:α}:∀ {l:List β},All2 R [a,b,c] l→∃ x y z,l=[x,y,z]∧R a x∧R b y∧R c z
 | [],h=>h.elim
 | [_],h=>h.2.elim
 | [_,_],h=>h.2.2.elim
 | [x,y,z],h=>⟨x,y,z,rfl,h.1,h.2.1,h.2.2.1⟩
 | _ ::_ ::_ ::_ ::_,h=>h.2.2.2.elim
theorem all2_2 {α β:Type} {R:α→β→Prop} {a b:α}:∀ {l:List β},All2 R [a,b] l→∃ x y,l=[x,y]∧R a x∧R b y
 | [],h=>h.elim
 | [_],h=>h.2.elim
 | [x,y],h=>⟨x,y,rfl,h.1,h.2.1⟩
 | _ ::_ ::_ ::_,h=>h.2.2.elim
theorem alloc_get (w:World) (o:Obj):(w.drew.alloc o).heap[w.heap.size]? = some o:=by
 show (w.heap.push o)[w.heap.size]? = _
 simp
theorem alloc_get2 (w:World) (o:Obj):((w.alloc o).drew).heap[w.heap.size]? = some o:=by
 show (w.heap.push o)[w.heap.size]? = _
 simp
theorem zc_size (k:Nat):(Builtin.zeroCells (Value.int .i64 0).cells k).size=k:=by
 simp [Builtin.zeroCells,Value.cells]
theorem one_int (n:Int):(Value.int .i64 n).oneCell'=true:=rfl
theorem new_get {l:List Int} {x:Int} {i j:Nat} (hi:i≤l.length):(l.take i++x ::l.drop i).getD j 0=if j < i then l.getD j 0 else if j=i then x else l.getD (j - 1) 0:=by
 simp only [List.getD,List.getElem?_append,List.length_take,List.getElem?_take]
 by_cases h:j < i
 · rw [if_pos (by omega),if_pos h,if_pos h]
 · rw [if_neg (by omega),if_neg h]
   by_cases h2:j=i
   · subst h2;rw [if_pos rfl];simp [Nat.min_eq_left hi]
   · rw [if_neg h2]
     obtain ⟨d,hd⟩:∃ d,j - min i l.length=d+1:=⟨j - i - 1,by omega⟩
     rw [hd,List.getElem?_cons_succ,List.getElem?_drop]
     congr 2;omega
theorem fnOk_insert:FnOk Tryz.prog 90:=⟨_,Tryz.func90,by kernel_rfl,by kernel_rfl⟩
theorem fnOk_search:FnOk Tryz.prog 89:=⟨_,Tryz.func89,by kernel_rfl,by kernel_rfl⟩
theorem Insert_ok (l:List Int) (x:Int) (i:Nat) (hi:i≤l.length) (hl:l.length≤1000) :
   Call Tryz.prog 90 [.c (.sl 0 1 0 l.length),I i,.c (.sl 1 1 0 1)] [(0,rI l),(1,rI [x])] 2 (.o (.c (.sl 2 1 0 (l.length+1)))) [(2,rI (l.take i++x ::l.drop i))] 3:=by
 refine ⟨fnOk_insert,by omega,fun w A ρ vs ha hH hA hn=>?_⟩
 obtain ⟨vl⟩:=vs
 obtain ⟨v0,v1,v2,rfl,h0,h1,h2⟩:=all2_3 ha
 obtain ⟨rfl,_⟩:=h1
 rcases h2 with ⟨h2,_⟩|⟨_,vb,vm,vc,hkv,rfl,⟨hv1,hv2⟩,hv3⟩
 · cases h2
 obtain ⟨vb',vm',hkv',⟨vcs,ve,hvh,hvs,_,hva⟩,hvA,hvlt⟩:=hH.objs (1,rI [x]) (by simp) (by show ([x]:List Int).length ≠ 0;simp)
 rw [hkv] at hkv';injection hkv' with hkv';injection hkv' with e1 e2;subst e1;subst e2
 obtain ⟨z,hz1,hz2⟩:=hva 0 (by simp) 0 (by omega)
 obtain ⟨rfl,_⟩:=hz2
 rw [Nat.zero_mul]
 have hvcell:∀ j v,([Value.int .i64 x]:List Value)[j]? = some v→w.cell? ⟨vb,0+j,none⟩=some v:=by
   intro j v hj
   cases j with
   | zero =>
     simp at hj;subst hj
     rw [cell_of_cells hvh];simpa using hz1
   | succ j=>simp at hj
 have h1v:∀ v ∈ ([Value.int .i64 x]:List Value),v.oneCell'=true:=by
   intro v hv;simp at hv;subst hv;exact one_int _
 have grow:∀ (base:Option Addr) (c:Nat),(base=none→l.length=0)→i=l.length→l.length≤c→c < l.length+1→(∀ a,base=some a→∀ j v,(l.map (Value.int .i64))[j]? = some v→w.cell? (a.add j)=some v) →
     Calls Tryz.prog 90 #[.slice base l.length c,.int .i64 (i:Nat),.slice (some ⟨vb,0,none⟩) 1 vc] w fun e w'=>∃ (_:Unit) (v:Value) (A':Nat→Prop) (ρ':Rho),True∧e=.returned v∧(AV.o (.c (.sl 2 1 0 (l.length+1)))).At w' A' ρ' v∧HeapAt w' A' ρ' [(2,rI (l.take i++x ::l.drop i))]∧w'.os=w.os∧w'.tape=w.tape∧w'.output=w.output∧w.heap.size≤w'.heap.size ∧
       (∀ b,b < w.heap.size→¬ blkOf ρ [(0,rI l),(1,rI [x])] b→w'.heap[b]? = w.heap[b]?)∧(∀ b,A' b→b < w'.heap.size∧(A b ∨ blkOf ρ [(0,rI l),(1,rI [x])] b ∨ w.heap.size≤b)) ∧
       (∀ y ∈ ([(2,rI (l.take i++x ::l.drop i))]:Heap),y.2.real→∀ b m,ρ' y.1=some (b,m)→blkOf ρ [(0,rI l),(1,rI [x])] b ∨ w.heap.size≤b)∧(∀ h,h < 2→ρ' h=ρ h)∧(∀ h,3≤h→ρ' h=none):=by
   intro base c hnil hin hc1 hc2 hcell
   subst hin
   refine (Any2.slices_Insert_int_end_grow Tryz.laysNm221 base l.length c vb 0 1 vc (l.map (Value.int .i64)) [.int .i64 x] w (by omega) hc1 hc2 (by omega) (by simp) rfl hnil hcell hvcell h1v).mono ?_
   rintro e w' ⟨rfl,rfl⟩
   have hg1:=grownCap_ge w (l.length+1) c (Tryz.laysNm221_ren.t 3)
   have hg2:=grownCap_le_maxLen w (l.length+1) c (Tryz.laysNm221_ren.t 3) (by unfold maxLen;omega)
   refine ins_fin hA hn hH rfl (b2:=w.heap.size) (alloc_get w _) hg1 (by simp [zc_size];omega) (by simpa [maxLen] using hg2) (fun j hj=>?_) hi (.inr (Nat.le_refl _)) (fun k hk _=>?_) (by rw [World.size_alloc];exact Nat.le_succ _) rfl rfl rfl
   · rw [Array.getElem?_append_left (by simp;omega),List.getElem?_toArray]
     rw [new_get hi,List.getElem?_append]
     by_cases hjl:j < l.length
     · rw [if_pos (by simpa using hjl),if_pos hjl];exact ints_get hjl
     · rw [if_neg (by simpa using hjl),if_neg hjl,if_pos (by omega)]
       have:j - (l.map (Value.int .i64)).length=0:=by simp;omega
       rw [this];rfl
   · exact Below.heap_alloc _ _ _ hk
 rcases h0 with ⟨hl0,a,rfl⟩|⟨hl0,b,m,c,hkb,rfl,⟨hc1,hcM⟩,hc3⟩
 · have hl0':=hl0
   rw [hl0] at grow
   have:=grow a 0 (fun _=>rfl) (by omega) (Nat.le_refl _) (by omega) (fun a _ j v hj=>by
     have:l=[]:=List.length_eq_zero_iff.1 hl0
     subst this;simp at hj)
   rw [hl0]
   exact this
 obtain ⟨b',m',hkb',⟨cs,ce,hbh,hbs,hbn,hba⟩,hbA,hblt⟩:=hH.objs (0,rI l) (by simp) hl0
 rw [hkb] at hkb';injection hkb' with hkb';injection hkb' with e1 e2;subst e1;subst e2
 rw [Nat.zero_mul]
 have hcl:∀ j,j < l.length→cs[j]? = some (.int .i64 (l.getD j 0)):=by
   intro j hj
   obtain ⟨z,hz1,hz2⟩:=hba j hj 0 (by omega)
   obtain ⟨rfl,_⟩:=hz2
   simpa using hz1
 have hcell:∀ j v,(l.map (Value.int .i64))[j]? = some v→w.cell? ⟨b,0+j,none⟩=some v:=by
   intro j v hj
   have hjl:j < l.length:=by simpa using (List.getElem?_eq_some_iff.1 hj).1
   rw [ints_get hjl] at hj
   rw [cell_of_cells hbh,Nat.zero_add,hcl j hjl];exact hj
 have hne:vb ≠ b:=by
   have hp:=hH.inj
   simp only [List.pairwise_cons] at hp
   have:=hp.1 (1,rI [x]) (by simp) hl0 (by show ([x]:List Int).length ≠ 0;simp) _ _ hkb hkv
   exact fun e=>this e.symm
 have h1c:∀ v ∈ l.map (Value.int .i64),v.oneCell'=true:=by
   intro v hv
   obtain ⟨n,_,rfl⟩:=List.mem_map.1 hv
   exact one_int _
 have hcsz:c≤cs.size:=by rw [hbs];simpa using hc3
 have hblk:blkOf ρ [(0,rI l),(1,rI [x])] b:=⟨(0,rI l),by simp,hl0,m,hkb⟩
 by_cases hin:i=l.length
 · by_cases hroom:l.length+1≤c
   · subst hin
     refine (Any2.slices_Insert_int_end_room Tryz.laysNm221 b 0 l.length c vb 0 1 vc [.int .i64 x] w (by omega) hroom (by omega) rfl (fun j hj=>?_) (fun j hj=>?_) hvcell h1v).mono ?_
     · rw [cell_of_cells hbh]
       rw [Array.getElem?_eq_getElem (show 0+l.length+j < cs.size by omega)];rfl
     · simp [World.frozen?,hbh]
     · rintro e w' ⟨rfl,rfl⟩
       obtain ⟨cs',g1,g2,g3,g4,g5,g6,g7,g8,g9⟩:=setCells_get [.int .i64 x] (0+l.length) w cs hbh
       refine ins_fin hA hn hH rfl g1 hroom (by omega) hcM (fun j hj=>?_) hi (.inl ⟨hl0,m,hkb⟩) (fun k hk hnb=>g5 k (fun e=>hnb (e ▸ hblk))) (by omega) g7 g8 g9
       rw [new_get hi]
       by_cases hjl:j < l.length
       · rw [if_pos hjl,g3 j (by omega)];exact hcl j hjl
       · rw [if_neg hjl,if_pos (by omega)]
         have:=g4 0 (by simp) (by omega)
         rw [show j=0+l.length+0 by omega,this];rfl
   · exact grow (some ⟨b,0,none⟩) c (fun h=>by cases h) hin hc1 (by omega) (fun a ha j v hj=>by
       injection ha with ha;subst ha
       rw [Addr.add_lit];exact hcell j v hj)
 · by_cases hroom:l.length+1≤c
   · refine (Any2.slices_Insert_int_shift Tryz.laysNm221 b 0 l.length c i vb 0 1 vc (l.map (Value.int .i64)) [.int .i64 x] w (by omega) (by omega) hroom (by omega) hne (by simp) rfl hcell (fun j hj=>?_) (fun j hj=>?_) hvcell h1c h1v ve ce vcs.size cs.size (by simp [World.shape?,hvh]) (by simp [World.shape?,hbh]) (by omega) (by simp [World.frozen?,hvh]) (by simp [World.frozen?,hvh])).mono ?_
     · rw [cell_of_cells hbh]
       rw [Array.getElem?_eq_getElem (show 0+j < cs.size by omega)];rfl
     · simp [World.frozen?,hbh]
     · rintro e w' ⟨rfl,rfl⟩
       obtain ⟨cs',g1,g2,g3,g4,g5,g6,g7,g8,g9⟩:=setCells_get ((l.map (Value.int .i64)).drop i) (0+(i+1)) w.drew cs hbh
       obtain ⟨cs2,k1,k2,k3,k4,k5,k6,k7,k8,k9⟩:=setCells_get [.int .i64 x] (0+i) _ cs' g1
       have hdl:((l.map (Value.int .i64)).drop i).length=l.length - i:=by simp
       refine ins_fin hA hn hH rfl k1 hroom (by omega) hcM (fun j hj=>?_) hi (.inl ⟨hl0,m,hkb⟩) (fun k hk hnb=>by
         have hkb2:k ≠ b:=fun e=>hnb (e ▸ hblk)
         rw [k5 k hkb2,g5 k hkb2];rfl) (by rw [k6,g6];exact Nat.le_refl _) (by rw [k7,g7];rfl) (by rw [k8,g8];rfl) (by rw [k9,g9];rfl)
       rw [new_get hi]
       by_cases hji:j < i
       · rw [if_pos hji,k3 j (by omega),g3 j (by omega)];exact hcl j (by omega)
       · rw [if_neg hji]
         by_cases hje:j=i
         · rw [if_pos hje]
           have:=k4 0 (by simp) (by omega)
           rw [show j=0+i+0 by omega,this];rfl
         · rw [if_neg hje,k3 j (by simp;omega)]
           have:=g4 (j - (i+1)) (by omega) (by omega)
           rw [show 0+(i+1)+(j - (i+1))=j by omega] at this
           rw [this,List.getElem?_drop,show i+(j - (i+1))=j - 1 by omega]
           exact ints_get (by omega)
   · refine (Any2.slices_Insert_int_grow Tryz.laysNm221 b 0 l.length c i vb 0 1 vc (l.map (Value.int .i64)) [.int .i64 x] w (by omega) (by omega) hc1 (by omega) (by omega) (by simp) rfl hcell hvcell h1c h1v).mono ?_
     rintro e w' ⟨rfl,rfl⟩
     have hg1:=grownCap_ge w (l.length+1) c (Tryz.laysNm221_ren.t 3)
     have hg2:=grownCap_le_maxLen w (l.length+1) c (Tryz.laysNm221_ren.t 3) (by unfold maxLen;omega)
     generalize hgc:grownCap w (l.length+1) c (Tryz.laysNm221_ren.t 3)=gc at *
     obtain ⟨cs',g1,g2,g3,g4,g5,g6,g7,g8,g9⟩:=setCells_get [.int .i64 x] i _ _ (alloc_get2 w (.cells ((((l.map (Value.int .i64)).take i).toArray++Builtin.zeroCells (Value.int .i64 0).cells (l.length+1 - i)++Builtin.zeroCells (Value.int .i64 0).cells (gc - (l.length+1)))) (Tryz.laysNm221_ren.t 3)))
     obtain ⟨cs2,k1,k2,k3,k4,k5,k6,k7,k8,k9⟩:=setCells_get ((l.map (Value.int .i64)).drop i) (i+1) (World.drew (World.setCells (World.drew (World.alloc w (.cells ((((l.map (Value.int .i64)).take i).toArray++Builtin.zeroCells (Value.int .i64 0).cells (l.length+1 - i)++Builtin.zeroCells (Value.int .i64 0).cells (gc - (l.length+1)))) (Tryz.laysNm221_ren.t 3)))) w.heap.size i [.int .i64 x])) cs' g1
     have hs0:(((l.map (Value.int .i64)).take i).toArray++Builtin.zeroCells (Value.int .i64 0).cells (l.length+1 - i)++Builtin.zeroCells (Value.int .i64 0).cells (gc - (l.length+1))).size=gc:=by
       simp [zc_size];omega
     rw [hs0] at g2 g4
     have hdl:((l.map (Value.int .i64)).drop i).length=l.length - i:=by simp
     refine ins_fin hA hn hH rfl k1 hg1 (by omega) (by simpa [maxLen] using hg2) (fun j hj=>?_) hi (.inr (Nat.le_refl _)) (fun k hk hnb=>by
       rw [k5 k (by omega)]
       show (World.setCells _ _ _ _).heap[k]? = _
       rw [g5 k (by omega)]
       exact Below.heap_alloc _ _ _ hk) (by rw [k6];show _≤(World.setCells _ _ _ _).heap.size;rw [g6];show _≤(World.alloc w _).heap.size;rw [World.size_alloc];exact Nat.le_succ _) (by rw [k7];show (World.setCells _ _ _ _).os=_;rw [g7];rfl) (by rw [k8];show (World.setCells _ _ _ _).tape=_;rw [g8];rfl) (by rw [k9];show (World.setCells _ _ _ _).output=_;rw [g9];rfl)
     rw [new_get hi]
     by_cases hji:j < i
     · rw [if_pos hji,k3 j (by omega),g3 j (by omega)]
       rw [Array.getElem?_append_left (by simp [zc_size];omega),Array.getElem?_append_left (by simp;omega),List.getElem?_toArray,List.getElem?_take,if_pos hji]
       exact ints_get (by omega)
     · rw [if_neg hji]
       by_cases hje:j=i
       · rw [if_pos hje,k3 j (by omega)]
         have:=g4 0 (by simp) (by omega)
         rw [show j=i+0 by omega,this];rfl
       · rw [if_neg hje]
         have:=k4 (j - (i+1)) (by omega) (by omega)
         rw [show i+1+(j - (i+1))=j by omega] at this
         rw [this,List.getElem?_drop,show i+(j - (i+1))=j - 1 by omega]
         exact ints_get (by omega)
theorem BinarySearch_ok (l:List Int) (x:Int) (hl:l.length≤1000) (hs:l.Pairwise (·≤·)) :
   Call Tryz.prog 89 [.c (.sl 0 1 0 l.length),I x] [(0,rI l)] 1 (.tup [I (l.countP (· < x):Nat),BB (l.contains x)]) [(0,rI l)] 1:=by
 refine ⟨fnOk_search,by omega,fun w A ρ vs ha hH hA hn=>?_⟩
 obtain ⟨vl⟩:=vs
 obtain ⟨v0,v1,rfl,h0,h1⟩:=all2_2 ha
 obtain ⟨rfl,_⟩:=h1
 have fin:∀ (w':World),w'.heap=w.heap→w'.os=w.os→w'.tape=w.tape→w'.output=w.output→∃ (_:Unit) (v:Value) (A':Nat→Prop) (ρ':Rho),True∧Ending.returned (.tuple #[.int .i64 (l.countP (· < x):Nat),.bool (l.contains x)])=.returned v∧(AV.tup [I (l.countP (· < x):Nat),BB (l.contains x)]).At w' A' ρ' v∧HeapAt w' A' ρ' [(0,rI l)]∧w'.os=w.os∧w'.tape=w.tape∧w'.output=w.output∧w.heap.size≤w'.heap.size ∧
       (∀ b,b < w.heap.size→¬ blkOf ρ [(0,rI l)] b→w'.heap[b]? = w.heap[b]?)∧(∀ b,A' b→b < w'.heap.size∧(A b ∨ blkOf ρ [(0,rI l)] b ∨ w.heap.size≤b)) ∧
       (∀ y ∈ ([(0,rI l)]:Heap),y.2.real→∀ b m,ρ' y.1=some (b,m)→blkOf ρ [(0,rI l)] b ∨ w.heap.size≤b)∧(∀ h,h < 1→ρ' h=ρ h)∧(∀ h,1≤h→ρ' h=none):=by
   intro w' hh h1 h2 h3
   refine ⟨(),_,A,ρ,trivial,rfl,⟨_,rfl,⟨rfl,rfl⟩,⟨rfl,rfl⟩,trivial⟩,⟨fun y hy hr=>?_,by simp⟩,h1,h2,h3,by rw [hh];exact Nat.le_refl _,fun b _ _=>by rw [hh],fun b hb=>⟨by rw [hh];exact hA b hb,.inl hb⟩,fun y hy hr b m hbm=>.inl ⟨y,hy,hr,m,hbm⟩,fun _ _=>rfl,hn⟩
   obtain ⟨b,m,g1,g2,g3,g4⟩:=hH.objs y hy hr
   exact ⟨b,m,g1,AObj.At.mono (fun _ h=>h) (fun _ _=>by rw [hh]) (fun _ _ h=>h) (by rw [hh]) g2,g3,by rw [hh];exact g4⟩
 rcases h0 with ⟨hl0,a,rfl⟩|⟨hl0,b,m,c,hkb,rfl,⟨hc1,hcM⟩,hc3⟩
 · have:l=[]:=List.length_eq_zero_iff.1 hl0
   subst this
   refine (Any.slices_BinarySearch_int_empty Tryz.laysNm225 a 0 x w).mono ?_
   rintro e w' ⟨rfl,rfl⟩
   exact fin _ rfl rfl rfl rfl
 obtain ⟨b',m',hkb',⟨cs,ce,hbh,hbs,hbn,hba⟩,hbA,hblt⟩:=hH.objs (0,rI l) (by simp) hl0
 rw [hkb] at hkb';injection hkb' with hkb';injection hkb' with e1 e2;subst e1;subst e2
 rw [Nat.zero_mul]
 have ht:l.take l.length=l:=List.take_length
 refine (Any.slices_BinarySearch_int Tryz.laysNm225 b 0 l.length c l x w (Nat.le_refl _) (by omega) (fun j hj=>?_) (by rw [ht];exact hs)).mono ?_
 · rw [cell_of_cells hbh]
   obtain ⟨z,hz1,hz2⟩:=hba j hj 0 (by omega)
   obtain ⟨rfl,_⟩:=hz2
   simpa using hz1
 · rintro e w' ⟨rfl,q,rfl⟩
   rw [ht]
   exact fin _ rfl rfl rfl rfl
end Go.Hw
namespace Go.Hw
open Go.Proofs
def pl_Index_no0:Plan:=(.tak 0 (.tak 1 (.tak 2 (.tak 3 (.tak 4 (.tak 5 (.tak 6 (.tak 7 (.tak 8 (.tak 9 (.tak 10 (.tak 11 (.tak 12 (.tak 13 (.tak 14 (.all (.cons 15 (.all (.cons 16 (.all (.cons 17 .done .nil)) .nil)) (.cons 16 (.all (.cons 15 (.all (.cons 17 .done .nil)) .nil)) .nil))))))))))))))))))
attribute [go_sem] pl_Index_no0
theorem Index_no (l:List Int) (n:Int) (h1:l.length≤1000) (h:∀ j,j < l.length→l.getD j 0 ≠ n):Call Tryz.prog 134 [.c (.t (intsT l)),I n] [] 0 (.o (I (-1))) [] 0:=by
 refine vO tok Tryz.func134 rfl rfl Tryz.ntmps134 Tryz.results134 rfl (by decide) (fun cx hnt hk0=>?_)
 repeat' (first|refine vS fun K hK=>?_|refine hK _ ?_;clear hK K|refine vB ?_|((refine vR tok (by rw [hnt];rfl) ?_)<;>(try simp only [go_sem,qa,qb,qc,qd,qe,qf,qg,qh,qi,qj,qk,ql,qm,qn,qo,qp,qq,qr,qs,reduceIte,reduceCtorEq])))
 refine AWp.loop (fun i:Nat=>⟨[(0,.o (.c (.t (intsT l)))),(1,.o (I n)),(7,.o (I l.length)),(8,.o (I i))],[],0⟩) (fun i=>i≤l.length) (fun i=>l.length - i) 0 (Nat.zero_le _) ?_ ?_
 · refine vL hk0 [] ?_;simp only [go_sem,qa,qb,qc,qd,qe,qf,qg,qh,qi,qj,qk,ql,qm,qn,qo,qp,qq,qr,qs,reduceIte,reduceCtorEq]
   simp
 intro i hi
 by_cases hlt:i < l.length
 · have hne:=h i hlt
   repeat' (first|refine vS fun K hK=>?_|refine hK _ ?_;clear hK K|refine hX ?_;clear hX hY X Y|refine hY ?_;clear hX hY X Y|refine vB ?_|((first|refine vR tok (by rw [hnt];rfl) ?_|refine vC fun X Y hX hY=>?_|refine vK ?_|refine vL hk0 [] ?_|(apply gC<;>intro hq<;>(try simp only [nT,nF,n1,n0] at hq)<;>(have hb:=hq)<;>(try simp only [dT,dF,eT,eF] at hb)<;>first|(exfalso;omega)|((try simp only [hq]);clear hq)))<;>(try simp only [go_sem,qa,qb,qc,qd,qe,qf,qg,qh,qi,qj,qk,ql,qm,qn,qo,qp,qq,qr,qs,reduceIte,reduceCtorEq]))|refine ⟨i+1,?_,?_,?_⟩|refine Fits.of ?_ ?_|refine aE ?_ fun hp=>?_|refine aC ?_ fun hp=>?_|refine And.intro ?_ ?_|clear hK K)
   all_goals try (first|omega|(simp only [dA,dB,dC];omega))
   all_goals (exfalso;first|exact hne hb.symm|exact hne hb|omega)
 · repeat' (first|refine vS fun K hK=>?_|refine hK _ ?_;clear hK K|refine hY ?_;clear hX hY X Y|((first|refine vR tok (by rw [hnt];rfl) ?_|refine vC fun X Y hX hY=>?_|refine vE ?_|refine vT ?_|refine vF [] ?_|(apply gC<;>intro hq<;>(try simp only [nT,nF,n1,n0] at hq)<;>(have hb:=hq)<;>(try simp only [dT,dF,eT,eF] at hb)<;>first|(exfalso;omega)|((try simp only [hq]);clear hq)))<;>(try simp only [go_sem,qa,qb,qc,qd,qe,qf,qg,qh,qi,qj,qk,ql,qm,qn,qo,qp,qq,qr,qs,reduceIte,reduceCtorEq]))|clear hK K)
   all_goals try omega
theorem Index_at (l:List Int) (n:Int) (k:Nat) (h1:l.length≤1000) (hk:k < l.length) (he:l.getD k 0=n) (h:∀ j,j < k→l.getD j 0 ≠ n):Call Tryz.prog 134 [.c (.t (intsT l)),I n] [] 0 (.o (I k)) [] 0:=by
 refine vO tok Tryz.func134 rfl rfl Tryz.ntmps134 Tryz.results134 rfl (by decide) (fun cx hnt hk0=>?_)
 repeat' (first|refine vS fun K hK=>?_|refine hK _ ?_;clear hK K|refine vB ?_|((refine vR tok (by rw [hnt];rfl) ?_)<;>(try simp only [go_sem,qa,qb,qc,qd,qe,qf,qg,qh,qi,qj,qk,ql,qm,qn,qo,qp,qq,qr,qs,reduceIte,reduceCtorEq])))
 refine AWp.loop (fun i:Nat=>⟨[(0,.o (.c (.t (intsT l)))),(1,.o (I n)),(7,.o (I l.length)),(8,.o (I i))],[],0⟩) (fun i=>i≤k) (fun i=>l.length - i) 0 (Nat.zero_le _) ?_ ?_
 · refine vL hk0 [] ?_;simp only [go_sem,qa,qb,qc,qd,qe,qf,qg,qh,qi,qj,qk,ql,qm,qn,qo,qp,qq,qr,qs,reduceIte,reduceCtorEq]
   simp
 intro i hi
 by_cases hlt:i=k
 · subst hlt
   repeat' (first|refine vS fun K hK=>?_|refine hK _ ?_;clear hK K|refine hX ?_;clear hX hY X Y|refine vB ?_|((first|refine vR tok (by rw [hnt];rfl) ?_|refine vC fun X Y hX hY=>?_|refine vK ?_|refine vT ?_|refine vF [] ?_|(apply gC<;>intro hq<;>(try simp only [nT,nF,n1,n0] at hq)<;>(have hb:=hq)<;>(try simp only [dT,dF,eT,eF] at hb)<;>first|(exfalso;omega)|((try simp only [hq]);clear hq)))<;>(try simp only [go_sem,qa,qb,qc,qd,qe,qf,qg,qh,qi,qj,qk,ql,qm,qn,qo,qp,qq,qr,qs,reduceIte,reduceCtorEq,he]))|refine aE ?_ fun hp=>?_|refine aC ?_ fun hp=>?_|clear hK K)
   all_goals try omega
 · have hne:=h i (by omega)
   repeat' (first|refine vS fun K hK=>?_|refine hK _ ?_;clear hK K|refine hX ?_;clear hX hY X Y|refine hY ?_;clear hX hY X Y|refine vB ?_|((first|refine vR tok (by rw [hnt];rfl) ?_|refine vC fun X Y hX hY=>?_|refine vK ?_|refine vL hk0 [] ?_|(apply gC<;>intro hq<;>(try simp only [nT,nF,n1,n0] at hq)<;>(have hb:=hq)<;>(try simp only [dT,dF,eT,eF] at hb)<;>first|(exfalso;omega)|((try simp only [hq]);clear hq)))<;>(try simp only [go_sem,qa,qb,qc,qd,qe,qf,qg,qh,qi,qj,qk,ql,qm,qn,qo,qp,qq,qr,qs,reduceIte,reduceCtorEq]))|refine ⟨i+1,?_,?_,?_⟩|refine Fits.of ?_ ?_|refine aE ?_ fun hp=>?_|refine aC ?_ fun hp=>?_|refine And.intro ?_ ?_|clear hK K)
   all_goals try (first|omega|(simp only [dA,dB,dC];omega))
   all_goals (exfalso;first|exact hne hb.symm|exact hne hb|omega)
theorem Contains_ok (l:List Int) (n:Int) (h1:l.length≤1000):Call Tryz.prog 98 [.c (.t (intsT l)),I n] [] 0 (.o (BB (l.contains n))) [] 0:=by
 by_cases h:∀ j,j < l.length→l.getD j 0 ≠ n
 · rw [contains_false h]
   refine vO tok Tryz.func98 rfl rfl Tryz.ntmps98 Tryz.results98 rfl (by decide) (fun cx hnt hk0=>?_)
   repeat' (first|refine vS fun K hK=>?_|refine hK _ ?_;clear hK K|((first|refine vR tok (by rw [hnt];rfl) ?_|refine vT ?_|refine vF [] ?_|(refine runS_c [] (Index_no l n h1 h) rfl ?_ ?_ ?_))<;>(try simp only [go_sem,qa,qb,qc,qd,qe,qf,qg,qh,qi,qj,qk,ql,qm,qn,qo,qp,qq,qr,qs,reduceIte,reduceCtorEq])))
 · obtain ⟨k,hk,hmin⟩:=least (p:=fun k=>k < l.length∧l.getD k 0=n) (Classical.byContradiction fun hno=>h fun j hj e=>hno ⟨j,hj,e⟩)
   rw [contains_true hk.1 hk.2]
   have hI:=Index_at l n k h1 hk.1 hk.2 (fun j hj e=>by have:=hmin j ⟨by omega,e⟩;omega)
   refine vO tok Tryz.func98 rfl rfl Tryz.ntmps98 Tryz.results98 rfl (by decide) (fun cx hnt hk0=>?_)
   repeat' (first|refine vS fun K hK=>?_|refine hK _ ?_;clear hK K|((first|refine vR tok (by rw [hnt];rfl) ?_|refine vT ?_|refine vF [] ?_|(refine runS_c [] (hI) rfl ?_ ?_ ?_))<;>(try simp only [go_sem,qa,qb,qc,qd,qe,qf,qg,qh,qi,qj,qk,ql,qm,qn,qo,qp,qq,qr,qs,reduceIte,reduceCtorEq])))
   all_goals simp
theorem split_take {l:List Int} {h:Int} (hp:l.Pairwise (· < ·)) (hn:h ∉ l):l.take (l.countP (· < h))=l.filter (fun x=>decide (x < h))∧l.drop (l.countP (· < h))=l.filter (fun x=>decide (h < x)):=by
 induction l with
 | nil=>simp
 | cons a r ih =>
   rw [List.pairwise_cons] at hp
   simp only [List.mem_cons,not_or] at hn
   obtain ⟨i1,i2⟩:=ih hp.2 hn.2
   by_cases ha:a < h
   · have ha':¬ h < a:=by omega
     simp [ha,ha',i1,i2]
   · have hc:r.countP (· < h)=0:=by
       rw [List.countP_eq_zero]
       intro x hx;have:=hp.1 x hx;simp;omega
     have hg:∀ x ∈ r,h < x:=fun x hx=>by have:=hp.1 x hx;omega
     have ha':h < a:=by omega
     have f1:r.filter (fun x=>decide (x < h))=[]:=by
       rw [List.filter_eq_nil_iff];intro x hx;have:=hg x hx;simp;omega
     have f2:r.filter (fun x=>decide (h < x))=r:=by
       rw [List.filter_eq_self];intro x hx;simpa using hg x hx
     simp [ha,ha',hc,f1,f2]
theorem iknow_ok (c o:Chain) (h:Int) (hc:c.ok=true) (hp:(o.past.length:Int) < 1000):Call Tryz.prog 65 [.c (.ptr 0 0 0 0),.c (.ptr 8 0 0 0),I h] (linkH c 0 1++[(8,.box (linkA o 9))]) 16 (.tup []) (linkH (c.know o h) 0 16++[(8,.box (linkA o 9))]) 23:=by
 obtain ⟨q1,q2,q3,q4,q5,q6⟩:=chain_ok hc
 have q7:=knows_len q6
 have q8:=(knows_iff.1 q6).2
 have q9:c.knows.Pairwise (·≤·):=q8.imp (fun h=>by omega)
 have cB:=BinarySearch_ok c.knows h (by omega) q9
 unfold Chain.know Chain.knowB
 by_cases hin:In h 1 o.past.length=true
 · have hin':=hin
   rw [In_iff] at hin'
   cases hk:c.knows.contains h
   · rw [hk] at cB
     have hn:h ∉ c.knows:=by simpa using hk
     have hcn:c.knows.countP (· < h)≤c.knows.length:=List.countP_le_length
     have cI:=Insert_ok c.knows h (c.knows.countP (· < h)) hcn (by omega)
     rw [(split_take q8 hn).1,(split_take q8 hn).2] at cI
     have hlen:(c.knows.filter (fun x=>decide (x < h))++h ::c.knows.filter (fun x=>decide (h < x))).length=c.knows.length+1:=by
       rw [← (split_take q8 hn).1,← (split_take q8 hn).2];simp;omega
     rw [hin]
     refine vO tok Tryz.func65 rfl rfl Tryz.ntmps65 Tryz.results65 rfl (by decide) (fun cx hnt hk0=>?_)
     repeat' (first|refine vS fun K hK=>?_|refine hK _ ?_;clear hK K|refine hX ?_;clear hX hY X Y|refine hY ?_;clear hX hY X Y|((first|refine vR tok (by rw [hnt];rfl) ?_|refine vC fun X Y hX hY=>?_|refine vK ?_|refine vF [] ?_|refine runS_c [7] (cB) rfl ?_ ?_ ?_|refine runS_c [7,16] (cI) rfl ?_ ?_ ?_|((first|apply gR|apply gC)<;>intro hq<;>(try simp only [nT,nF,n1,n0] at hq)<;>(have hb:=hq)<;>(try simp only [dT,dF,eT,eF] at hb)<;>first|(exfalso;omega)|((try simp only [hq]);clear hq)))<;>(try simp only [go_sem,qa,qb,qc,qd,qe,qf,qg,qh,qi,qj,qk,ql,qm,qn,qo,qp,qq,qr,qs,reduceIte,reduceCtorEq,Bool.not_false,Bool.and_true,if_true,hlen])))
     all_goals try omega
   · rw [hk] at cB
     rw [hin]
     refine vO tok Tryz.func65 rfl rfl Tryz.ntmps65 Tryz.results65 rfl (by decide) (fun cx hnt hk0=>?_)
     repeat' (first|refine vS fun K hK=>?_|refine hK _ ?_;clear hK K|refine hY ?_;clear hX hY X Y|((first|refine vR tok (by rw [hnt];rfl) ?_|refine vC fun X Y hX hY=>?_|refine vK ?_|refine vF [] ?_|refine runS_c [7] (cB) rfl ?_ ?_ ?_|((first|apply gR|apply gC)<;>intro hq<;>(try simp only [nT,nF,n1,n0] at hq)<;>(have hb:=hq)<;>(try simp only [dT,dF,eT,eF] at hb)<;>first|(exfalso;omega)|((try simp only [hq]);clear hq)))<;>(try simp only [go_sem,qa,qb,qc,qd,qe,qf,qg,qh,qi,qj,qk,ql,qm,qn,qo,qp,qq,qr,qs,reduceIte,reduceCtorEq,Bool.not_true,Bool.and_false,Bool.false_eq_true,if_false])))
     all_goals try omega
 · have hin2:In h 1 o.past.length=false:=by simpa using hin
   rw [In_iff] at hin
   rw [hin2]
   refine vO tok Tryz.func65 rfl rfl Tryz.ntmps65 Tryz.results65 rfl (by decide) (fun cx hnt hk0=>?_)
   repeat' (first|refine vS fun K hK=>?_|refine hK _ ?_;clear hK K|refine hX ?_;clear hX hY X Y|((first|refine vR tok (by rw [hnt];rfl) ?_|refine vC fun X Y hX hY=>?_|refine vT ?_|refine vF [] ?_|((first|apply gR|apply gC)<;>intro hq<;>(try simp only [nT,nF,n1,n0] at hq)<;>(have hb:=hq)<;>(try simp only [dT,dF,eT,eF] at hb)<;>first|(exfalso;omega)|((try simp only [hq]);clear hq)))<;>(try simp only [go_sem,qa,qb,qc,qd,qe,qf,qg,qh,qi,qj,qk,ql,qm,qn,qo,qp,qq,qr,qs,reduceIte,reduceCtorEq,Bool.false_and,Bool.false_eq_true,if_false])))
   all_goals try omega
theorem isend_ok (c:Chain) (kind src dst sum till:Int) (hc:c.ok=true):Call Tryz.prog 66 [.c (.ptr 0 0 0 0),I kind,I src,I dst,I sum,I till] (linkH c 0 1) 8 (.tup [I (if c.sendB kind src dst sum till then (c.state.sent.length:Int)+1 else 0),BB (c.sendB kind src dst sum till)]) (linkH (c.send kind src dst sum till) 0 8) 15:=by
 obtain ⟨q1,q2,q3,q4,q5,q6⟩:=chain_ok hc
 obtain ⟨r1,r2,r3,r4,r5,r6,r7,r8,r9⟩:=state_ok q3
 obtain ⟨b1,b2,b3,b4,b5⟩:=bank_ok q2
 have b6:=parts_len b1
 have b7:=parts_len b2
 have b8:=parts_all b1
 unfold Chain.send
 have ep:(⟨(c.state.sent.length:Int)+1,kind,src,dst,sum,till,c.state.ver⟩:Packet)=c.packet kind src dst sum till:=rfl
 have cP:=iPacketOk_ok (c.packet kind src dst sum till)
 by_cases hw:c.state.way=3
 · cases hp:(c.packet kind src dst sum till).ok
   · have hB:c.sendB kind src dst sum till=false:=by simp [Chain.sendB,hp]
     rw [hB]
     rw [hp] at cP
     refine vO tok Tryz.func66 rfl rfl Tryz.ntmps66 Tryz.results66 rfl (by decide) (fun cx hnt hk0=>?_)

     repeat' (first|refine vS fun K hK=>?_|refine hK _ ?_;clear hK K|refine hX ?_;clear hX hY X Y|((first|refine vR tok (by rw [hnt];rfl) ?_|refine vC fun X Y hX hY=>?_|refine vT ?_|refine vF [] ?_|refine runS_c [] (cP) rfl ?_ ?_ ?_|(refine AWp.draw (id:=2) tok mixed pl_Index_no0 [0] [1,2,3,4,5,14] (by kernel_rfl) (by kernel_rfl) (by rw [hnt];rfl) ?_)|(apply gR<;>intro hq<;>(try simp only [nT,nF,n1,n0] at hq)<;>(have hb:=hq)<;>(try simp only [dT,dF,eT,eF] at hb)<;>first|(exfalso;omega)|((try simp only [hq]);clear hq)))<;>(try simp only [go_sem,qa,qb,qc,qd,qe,qf,qg,qh,qi,qj,qk,ql,qm,qn,qo,qp,qq,qr,qs,reduceIte,reduceCtorEq,Bool.false_eq_true,if_false]))|refine Fits.of ?_ ?_|refine And.intro ?_ ?_|clear hK K)
     all_goals try omega
   · rw [hp] at cP
     obtain ⟨a1,a2,a3,a4,a5,a6,a7⟩:=packet_iff.1 hp
     simp only [Chain.packet] at a1 a2 a3 a4 a5 a6 a7
     have hg:c.bank.takeB kind src sum=c.bank.awayB kind src sum:=by
       unfold Bank.takeB
       rw [q2,In_iff.2 a2,In_iff.2 a3,decide_eq_true (show 0≤sum by omega)]
       rfl
     have hB:c.sendB kind src dst sum till=c.bank.awayB kind src sum:=by simp [Chain.sendB,hp,hw]
     rw [hB]
     cases hA:c.bank.awayB kind src sum
     · rw [hA] at hg
       refine vO tok Tryz.func66 rfl rfl Tryz.ntmps66 Tryz.results66 rfl (by decide) (fun cx hnt hk0=>?_)

       repeat' (first|refine vS fun K hK=>?_|refine hK _ ?_;clear hK K|refine hX ?_;clear hX hY X Y|refine hY ?_;clear hX hY X Y|((first|refine vR tok (by rw [hnt];rfl) ?_|refine vC fun X Y hX hY=>?_|refine vK ?_|refine vT ?_|refine vF [] ?_|refine runS_c [] (cP) rfl ?_ ?_ ?_|(refine runS_v [] (iBankAway_no c.bank kind src sum (by omega) (by omega) (by omega) hg) ?_ ?_ ?_ ?_ ?_)|(refine AWp.draw (id:=2) tok mixed pl_Index_no0 [0] [1,2,3,4,5,14] (by kernel_rfl) (by kernel_rfl) (by rw [hnt];rfl) ?_)|(apply gR<;>intro hq<;>(try simp only [nT,nF,n1,n0] at hq)<;>(have hb:=hq)<;>(try simp only [dT,dF,eT,eF] at hb)<;>first|(exfalso;omega)|((try simp only [hq]);clear hq)))<;>(try simp only [go_sem,qa,qb,qc,qd,qe,qf,qg,qh,qi,qj,qk,ql,qm,qn,qo,qp,qq,qr,qs,reduceIte,reduceCtorEq,Bool.false_eq_true,if_false]))|refine Fits.of ?_ ?_|refine And.intro ?_ ?_|clear hK K)
       all_goals try omega
     · rw [hA] at hg
       unfold Chain.sendD
       refine vO tok Tryz.func66 rfl rfl Tryz.ntmps66 Tryz.results66 rfl (by decide) (fun cx hnt hk0=>?_)

       repeat' (first|refine vS fun K hK=>?_|refine hK _ ?_;clear hK K|refine hY ?_;clear hX hY X Y|((first|refine vR tok (by rw [hnt];rfl) ?_|refine vC fun X Y hX hY=>?_|refine vK ?_|refine vT ?_|refine vF [] ?_|refine runS_c [] (cP) rfl ?_ ?_ ?_|(refine runS_v [] (iBankAway_yes c.bank kind src sum (by omega) (by omega) (by omega) hg) ?_ ?_ ?_ ?_ ?_)|(refine AWp.draw (id:=2) tok mixed pl_Index_no0 [0] [1,2,3,4,5,14] (by kernel_rfl) (by kernel_rfl) (by rw [hnt];rfl) ?_)|(refine AWp.draw (id:=9) tok mixed (.tak 0 (.tak 1 (.tak 2 (.tak 3 (.tak 5 (.all (.cons 4 (.all (.cons 6 (.all (.cons 7 (.tak 8 (.tak 9 (.all (.cons 10 .done .nil)))) .nil)) .nil)) (.cons 6 (.all (.cons 4 (.all (.cons 7 (.tak 8 (.tak 9 (.all (.cons 10 .done .nil)))) .nil)) .nil)) .nil)))))))) [8] [14,15] (by kernel_rfl) (by kernel_rfl) (by rw [hnt];rfl) ?_)|(apply gR<;>intro hq<;>(try simp only [nT,nF,n1,n0] at hq)<;>(have hb:=hq)<;>(try simp only [dT,dF,eT,eF] at hb)<;>first|(exfalso;omega)|((try simp only [hq]);clear hq)))<;>(try simp only [go_sem,qa,qb,qc,qd,qe,qf,qg,qh,qi,qj,qk,ql,qm,qn,qo,qp,qq,qr,qs,reduceIte,reduceCtorEq,if_true,ep]))|refine Fits.of ?_ ?_|refine aE ?_ fun hp=>?_|refine And.intro ?_ ?_|clear hK K)
       all_goals try omega
 · have hB:c.sendB kind src dst sum till=false:=by simp [Chain.sendB,hw]
   rw [hB]
   refine vO tok Tryz.func66 rfl rfl Tryz.ntmps66 Tryz.results66 rfl (by decide) (fun cx hnt hk0=>?_)

   repeat' (first|refine vS fun K hK=>?_|refine hK _ ?_;clear hK K|refine hX ?_;clear hX hY X Y|((first|refine vR tok (by rw [hnt];rfl) ?_|refine vC fun X Y hX hY=>?_|refine vT ?_|refine vF [] ?_|(refine AWp.draw (id:=2) tok mixed pl_Index_no0 [0] [1,2,3,4,5,14] (by kernel_rfl) (by kernel_rfl) (by rw [hnt];rfl) ?_)|(apply gR<;>intro hq<;>(try simp only [nT,nF,n1,n0] at hq)<;>(have hb:=hq)<;>(try simp only [dT,dF,eT,eF] at hb)<;>first|(exfalso;omega)|((try simp only [hq]);clear hq)))<;>(try simp only [go_sem,qa,qb,qc,qd,qe,qf,qg,qh,qi,qj,qk,ql,qm,qn,qo,qp,qq,qr,qs,reduceIte,reduceCtorEq,Bool.false_eq_true,if_false]))|refine Fits.of ?_ ?_|refine And.intro ?_ ?_|clear hK K)
   all_goals try omega
def proofNone:A1:=.g [ci 0,ci 0,ci 0,.t (.v (.slice none 0 0)),.t (.v (.slice none 0 0)),.t (.v (.slice none 0 0)),.t (.v (.slice none 0 0)),ci 0]
theorem proofFor_new (c o:Chain) (e:Event) (hk:e.kind=7) (hn:e.n=1 ∨ e.n=5):Call Tryz.prog 68 [.c (.ptr 0 0 0 0),.c (.ptr 8 0 0 0),e.av] (linkH c 0 1++linkH o 8 9) 16 (.tup [proofA State.new 0,BB true]) (linkH c 0 1++linkH o 8 9) 16:=by
 refine vO tok Tryz.func68 rfl rfl Tryz.ntmps68 Tryz.results68 rfl (by decide) (fun cx hnt hk0=>?_)

 repeat' (first|refine vS fun K hK=>?_|refine hK _ ?_;clear hK K|refine hX ?_;clear hX hY X Y|((first|refine vR tok (by rw [hnt];rfl) ?_|refine vC fun X Y hX hY=>?_|refine vT ?_|refine vF [18,19,20,21] ?_|refine runS_c [] (iStateNew_ok) rfl ?_ ?_ ?_|((first|apply gR|apply gC)<;>intro hq<;>(try simp only [nT,nF,n1,n0] at hq)<;>(have hb:=hq)<;>(try simp only [dT,dF,eT,eF] at hb)<;>first|(exfalso;omega)|((try simp only [hq]);clear hq)))<;>(try simp only [go_sem,qa,qb,qc,qd,qe,qf,qg,qh,qi,qj,qk,ql,qm,qn,qo,qp,qq,qr,qs,reduceIte,reduceCtorEq,State.new])))
 all_goals try omega
theorem proofFor_no (c o:Chain) (e:Event) (hk:¬ (e.kind=7∧(e.n=1 ∨ e.n=5))) (hl:c.knows.length≤1000) (hc:c.knows.contains e.height=false):Call Tryz.prog 68 [.c (.ptr 0 0 0 0),.c (.ptr 8 0 0 0),e.av] (linkH c 0 1++linkH o 8 9) 16 (.tup [proofNone,BB false]) (linkH c 0 1++linkH o 8 9) 16:=by
 have cC:=Contains_ok c.knows e.height hl
 rw [hc] at cC
 refine vO tok Tryz.func68 rfl rfl Tryz.ntmps68 Tryz.results68 rfl (by decide) (fun cx hnt hk0=>?_)

 repeat' (first|refine vS fun K hK=>?_|refine hK _ ?_;clear hK K|refine hX ?_;clear hX hY X Y|refine hY ?_;clear hX hY X Y|((first|refine vR tok (by rw [hnt];rfl) ?_|refine vC fun X Y hX hY=>?_|refine vK ?_|refine vT ?_|refine vF [] ?_|(refine AWp.draw (id:=3) tok mixed (.tak 0 (.tak 1 (.tak 2 (.tak 3 (.tak 4 (.tak 5 (.all (.cons 6 (.tak 7 .done) .nil)))))))) [0,16] [0,5] (by kernel_rfl) (by kernel_rfl) (by rw [hnt];rfl) ?_)|refine effS_v [] (cC) ?_ ?_ ?_ ?_ ?_|((first|apply gR|apply gC)<;>intro hq<;>(try simp only [nT,nF,n1,n0] at hq)<;>(have hb:=hq)<;>(try simp only [dT,dF,eT,eF] at hb)<;>first|(exfalso;omega)|((try simp only [hq]);clear hq)))<;>(try simp only [go_sem,qa,qb,qc,qd,qe,qf,qg,qh,qi,qj,qk,ql,qm,qn,qo,qp,qq,qr,qs,reduceIte,reduceCtorEq,proofNone])))
 all_goals try omega
theorem proofFor_yes (c o:Chain) (e:Event) (hk:¬ (e.kind=7∧(e.n=1 ∨ e.n=5))) (hl:c.knows.length≤1000) (hc:c.knows.contains e.height=true) (h1:1≤e.height) (h2:e.height≤o.past.length) (hp:(o.past.length:Int) < 1000):Call Tryz.prog 68 [.c (.ptr 0 0 0 0),.c (.ptr 8 0 0 0),e.av] (linkH c 0 1++linkH o 8 9) 16 (.tup [proofA (o.at e.height) e.height,BB true]) (linkH c 0 1++linkH o 8 9) 16:=by
 have cC:=Contains_ok c.knows e.height hl
 rw [hc] at cC
 refine vO tok Tryz.func68 rfl rfl Tryz.ntmps68 Tryz.results68 rfl (by decide) (fun cx hnt hk0=>?_)

 repeat' (first|refine vS fun K hK=>?_|refine hK _ ?_;clear hK K|refine hY ?_;clear hX hY X Y|((first|refine vR tok (by rw [hnt];rfl) ?_|refine vC fun X Y hX hY=>?_|refine vK ?_|refine vT ?_|refine vF [] ?_|refine runS_c [8,9,10,11,12,13,14,15] (at_yes o e.height h1 h2 hp) rfl ?_ ?_ ?_|(refine AWp.draw (id:=3) tok mixed (.tak 0 (.tak 1 (.tak 2 (.tak 3 (.tak 4 (.tak 5 (.all (.cons 6 (.tak 7 .done) .nil)))))))) [0,16] [0,5] (by kernel_rfl) (by kernel_rfl) (by rw [hnt];rfl) ?_)|refine effS_v [] (cC) ?_ ?_ ?_ ?_ ?_|((first|apply gR|apply gC)<;>intro hq<;>(try simp only [nT,nF,n1,n0] at hq)<;>(have hb:=hq)<;>(try simp only [dT,dF,eT,eF] at hb)<;>first|(exfalso;omega)|((try simp only [hq]);clear hq)))<;>(try simp only [go_sem,qa,qb,qc,qd,qe,qf,qg,qh,qi,qj,qk,ql,qm,qn,qo,qp,qq,qr,qs,reduceIte,reduceCtorEq])))
 all_goals try omega
def pl_relay_ok0:Plan:=(.tak 0 (.tak 1 (.tak 2 (.tak 3 (.tak 4 (.tak 5 (.tak 6 (.tak 7 (.tak 8 (.tak 9 (.tak 10 (.tak 11 (.tak 12 (.tak 13 (.tak 14 (.tak 15 .done))))))))))))))))
attribute [go_sem] pl_relay_ok0
def Chain.relayed (c:Chain) (s:State) (h:Int) (e:Event):Chain :=
 if e.kind=4 then c.get s e.packet else if e.kind=5 then c.tell s e.n else if e.kind=6 then c.late s h e.n else if e.kind=7 then c.step s e.n else c
theorem relay_ok (c:Chain) (s:State) (h:Int) (e:Event) (hc:c.ok=true) (hs:s.ok=true):Call Tryz.prog 69 [.c (.ptr 0 0 0 0),proofA s h,e.av] (linkH c 0 1) 8 (.tup []) (linkH (c.relayed s h e) 0 8) 15:=by
 unfold Chain.relayed
 by_cases k4:e.kind=4
 · rw [if_pos k4]
   refine vO tok Tryz.func69 rfl rfl Tryz.ntmps69 Tryz.results69 rfl (by decide) (fun cx hnt hk0=>?_)
   repeat' (first|refine vS fun K hK=>?_|refine hK _ ?_;clear hK K|refine hX ?_;clear hX hY X Y|refine vB ?_|((first|refine vR tok (by rw [hnt];rfl) ?_|refine vC fun X Y hX hY=>?_|refine vF [] ?_|refine runS_c [0,1,2,3,4,5,6,7] (get_ok2 c s h e.packet hc hs) rfl ?_ ?_ ?_|(apply gC<;>intro hq<;>(try simp only [nT,nF,n1,n0] at hq)<;>(have hb:=hq)<;>(try simp only [dT,dF,eT,eF] at hb)<;>first|(exfalso;omega)|((try simp only [hq]);clear hq)))<;>(try simp only [go_sem,qa,qb,qc,qd,qe,qf,qg,qh,qi,qj,qk,ql,qm,qn,qo,qp,qq,qr,qs,reduceIte,reduceCtorEq])))
   all_goals try omega
 rw [if_neg k4]
 by_cases k5:e.kind=5
 · rw [if_pos k5]
   refine vO tok Tryz.func69 rfl rfl Tryz.ntmps69 Tryz.results69 rfl (by decide) (fun cx hnt hk0=>?_)
   repeat' (first|refine vS fun K hK=>?_|refine hK _ ?_;clear hK K|refine hX ?_;clear hX hY X Y|refine hY ?_;clear hX hY X Y|refine vB ?_|((first|refine vR tok (by rw [hnt];rfl) ?_|refine vC fun X Y hX hY=>?_|refine vF [] ?_|refine runS_c [0,1,2,3,4,5,6,7] (tell_ok2 c s h e.n hc hs) rfl ?_ ?_ ?_|(apply gC<;>intro hq<;>(try simp only [nT,nF,n1,n0] at hq)<;>(have hb:=hq)<;>(try simp only [dT,dF,eT,eF] at hb)<;>first|(exfalso;omega)|((try simp only [hq]);clear hq)))<;>(try simp only [go_sem,qa,qb,qc,qd,qe,qf,qg,qh,qi,qj,qk,ql,qm,qn,qo,qp,qq,qr,qs,reduceIte,reduceCtorEq])))
   all_goals try omega
 rw [if_neg k5]
 by_cases k6:e.kind=6
 · rw [if_pos k6]
   refine vO tok Tryz.func69 rfl rfl Tryz.ntmps69 Tryz.results69 rfl (by decide) (fun cx hnt hk0=>?_)
   repeat' (first|refine vS fun K hK=>?_|refine hK _ ?_;clear hK K|refine hX ?_;clear hX hY X Y|refine hY ?_;clear hX hY X Y|refine vB ?_|((first|refine vR tok (by rw [hnt];rfl) ?_|refine vC fun X Y hX hY=>?_|refine vF [] ?_|refine runS_c [0,1,2,3,4,5,6,7] (late_ok2 c s h e.n hc hs) rfl ?_ ?_ ?_|(apply gC<;>intro hq<;>(try simp only [nT,nF,n1,n0] at hq)<;>(have hb:=hq)<;>(try simp only [dT,dF,eT,eF] at hb)<;>first|(exfalso;omega)|((try simp only [hq]);clear hq)))<;>(try simp only [go_sem,qa,qb,qc,qd,qe,qf,qg,qh,qi,qj,qk,ql,qm,qn,qo,qp,qq,qr,qs,reduceIte,reduceCtorEq])))
   all_goals try omega
 rw [if_neg k6]
 by_cases k7:e.kind=7
 · rw [if_pos k7]
   refine vO tok Tryz.func69 rfl rfl Tryz.ntmps69 Tryz.results69 rfl (by decide) (fun cx hnt hk0=>?_)
   repeat' (first|refine vS fun K hK=>?_|refine hK _ ?_;clear hK K|refine hX ?_;clear hX hY X Y|refine hY ?_;clear hX hY X Y|refine vB ?_|((first|refine vR tok (by rw [hnt];rfl) ?_|refine vC fun X Y hX hY=>?_|refine vF [] ?_|refine runS_c [0,1,2,3,4,5,6,7] (step_ok2 c s h e.n hc hs) rfl ?_ ?_ ?_|(apply gC<;>intro hq<;>(try simp only [nT,nF,n1,n0] at hq)<;>(have hb:=hq)<;>(try simp only [dT,dF,eT,eF] at hb)<;>first|(exfalso;omega)|((try simp only [hq]);clear hq)))<;>(try simp only [go_sem,qa,qb,qc,qd,qe,qf,qg,qh,qi,qj,qk,ql,qm,qn,qo,qp,qq,qr,qs,reduceIte,reduceCtorEq])))
   all_goals try omega
 rw [if_neg k7]
 refine vO tok Tryz.func69 rfl rfl Tryz.ntmps69 Tryz.results69 rfl (by decide) (fun cx hnt hk0=>?_)
 repeat' (first|refine vS fun K hK=>?_|refine hK _ ?_;clear hK K|refine hY ?_;clear hX hY X Y|refine vB ?_|((first|refine vR tok (by rw [hnt];rfl) ?_|refine vC fun X Y hX hY=>?_|refine vK ?_|refine vF [] ?_|(apply gC<;>intro hq<;>(try simp only [nT,nF,n1,n0] at hq)<;>(have hb:=hq)<;>(try simp only [dT,dF,eT,eF] at hb)<;>first|(exfalso;omega)|((try simp only [hq]);clear hq)))<;>(try simp only [go_sem,qa,qb,qc,qd,qe,qf,qg,qh,qi,qj,qk,ql,qm,qn,qo,qp,qq,qr,qs,reduceIte,reduceCtorEq])))
 all_goals try omega
theorem chainOk_ok (n:Int):Call Tryz.prog 62 [I n] [] 0 (.o (BB (In n 1 2))) [] 0:=by
 refine vO tok Tryz.func62 rfl rfl Tryz.ntmps62 Tryz.results62 rfl (by decide) (fun cx hnt hk0=>?_)
 repeat' (first|refine vS fun K hK=>?_|refine hK _ ?_;clear hK K|((first|refine vR tok (by rw [hnt];rfl) ?_|refine vT ?_|refine vF [] ?_|(apply gR<;>intro hq<;>(try simp only [nT,nF,n1,n0] at hq)<;>(have hb:=hq)<;>(try simp only [dT,dF,eT,eF] at hb)<;>first|(exfalso;omega)|((try simp only [hq]);clear hq)))<;>(try simp only [go_sem,qa,qb,qc,qd,qe,qf,qg,qh,qi,qj,qk,ql,qm,qn,qo,qp,qq,qr,qs,reduceIte,reduceCtorEq])))
 all_goals simp [In, *]
def pairB:AObj:=.box [.ptr 1 0 0 0,.ptr 2 0 0 0]
attribute [go_sem] pairB
theorem ends_1 (n:Int) (h:n=1):Call Tryz.prog 63 [.c (.ptr 0 0 0 0),I n] [(0,pairB)] 3 (.tup [.c (.ptr 1 0 0 0),.c (.ptr 2 0 0 0)]) [(0,pairB)] 3:=by
 subst h
 refine vO tok Tryz.func63 rfl rfl Tryz.ntmps63 Tryz.results63 rfl (by decide) (fun cx hnt hk0=>?_)

 repeat' (first|refine vS fun K hK=>?_|refine hK _ ?_;clear hK K|((first|refine vR tok (by rw [hnt];rfl) ?_|refine vT ?_|refine vF [] ?_|(refine AWp.draw (id:=1) tok mixed pl_relay_ok0 [0] [0,1] (by kernel_rfl) (by kernel_rfl) (by rw [hnt];rfl) ?_))<;>(try simp only [go_sem,qa,qb,qc,qd,qe,qf,qg,qh,qi,qj,qk,ql,qm,qn,qo,qp,qq,qr,qs,reduceIte,reduceCtorEq]))|refine Fits.of ?_ ?_|refine aL ?_ fun hp=>?_|refine And.intro ?_ ?_|clear hK K)
 all_goals try omega
theorem ends_2 (n:Int) (h:n=2):Call Tryz.prog 63 [.c (.ptr 0 0 0 0),I n] [(0,pairB)] 3 (.tup [.c (.ptr 2 0 0 0),.c (.ptr 1 0 0 0)]) [(0,pairB)] 3:=by
 subst h
 refine vO tok Tryz.func63 rfl rfl Tryz.ntmps63 Tryz.results63 rfl (by decide) (fun cx hnt hk0=>?_)

 repeat' (first|refine vS fun K hK=>?_|refine hK _ ?_;clear hK K|((first|refine vR tok (by rw [hnt];rfl) ?_|refine vT ?_|refine vF [] ?_|(refine AWp.draw (id:=1) tok mixed pl_relay_ok0 [0] [0,1] (by kernel_rfl) (by kernel_rfl) (by rw [hnt];rfl) ?_))<;>(try simp only [go_sem,qa,qb,qc,qd,qe,qf,qg,qh,qi,qj,qk,ql,qm,qn,qo,qp,qq,qr,qs,reduceIte,reduceCtorEq]))|refine Fits.of ?_ ?_|refine aL ?_ fun hp=>?_|refine And.intro ?_ ?_|clear hK K)
 all_goals try omega
def pairH (w:Two) (ra rb:Nat):Heap:=(0,pairB) ::(linkH w.a 1 ra++linkH w.b 2 rb)
attribute [go_sem] pairH
theorem know_in {c o:Chain} {h:Int} (hc:c.ok=true) (hk:kAll c o) (h1:c.knows.contains h=true):1≤h∧h≤o.past.length:=by
 have hm:h ∈ c.knows:=by simpa using h1
 obtain ⟨q1,q2,q3,q4,q5,q6⟩:=chain_ok hc
 exact ⟨((knows_iff.1 q6).1 h hm).1,hk h hm⟩
theorem get_not {c:Chain} {s:State} {p:Packet} (hs:s.ok=true) (h:p.ok=false):c.get s p=c:=by
 unfold Chain.get
 rw [if_neg]
 intro hB
 simp only [Chain.getB,Bool.and_eq_true] at hB
 rw [(hasB_ok hs hB.2.1).1] at h;cases h
theorem on_relayed {c o:Chain} {e:Event} (hc:c.ok=true) (ho:o.ok=true) (hk:kAll c o) (h4:4≤e.kind∧e.kind≤7) (hn:¬ (e.kind=7∧(e.n=1 ∨ e.n=5))) :
   c.on o e=if c.knows.contains e.height=true then c.relayed (o.at e.height) e.height e else c:=by
 unfold Chain.on
 rw [if_neg (by omega),if_neg (by omega),if_neg (by omega),if_neg (by omega),if_neg hn]
 unfold Chain.relay Chain.relayB
 cases h:c.knows.contains e.height
 · simp
 · have hi:=know_in hc hk h
   rw [Bool.true_and,if_pos (decide_eq_true hi.2),if_pos rfl]
   unfold Chain.relayed
   have hs:(o.at e.height).ok=true:=(relay_at hc ho (by simp [Chain.relayB,-List.contains_eq_mem,h,hi.2]:c.relayB o e.height=true)).2.2
   split
   · split
     · rfl
     · exact (get_not hs (Bool.eq_false_iff.2 (by assumption))).symm
   · rfl
theorem on_new {c o:Chain} {e:Event} (h7:e.kind=7) (hn:e.n=1 ∨ e.n=5):c.on o e=c.relayed State.new 0 e:=by
 unfold Chain.on Chain.relayed
 rw [if_neg (by omega),if_neg (by omega),if_neg (by omega),if_neg (by omega),if_pos ⟨h7,hn⟩,if_neg (by omega),if_neg (by omega),if_neg (by omega),if_pos h7]
theorem on_none {c o:Chain} {e:Event} (h:e.kind < 1 ∨ 8 < e.kind):c.on o e=c:=by
 unfold Chain.on
 rw [if_neg (by omega),if_neg (by omega),if_neg (by omega),if_neg (by omega),if_neg (by omega)]
 unfold Chain.relay
 rw [if_neg (show ¬ e.kind=4 by omega),if_neg (show ¬ e.kind=5 by omega),if_neg (show ¬ e.kind=6 by omega),if_neg (show ¬ e.kind=7 by omega)]
 split<;>rfl
end Go.Hw
namespace Go.Hw
open Go.Proofs
attribute [local irreducible] Fits
theorem wayWord_ok (n:Int):Call Tryz.prog 41 [I n] [] 0 (.o (U (wayT n))) [] 0:=by
 unfold wayT
 by_cases h1:n=1
 · subst h1
   refine vO tok Tryz.func41 rfl rfl Tryz.ntmps41 Tryz.results41 rfl (by decide) (fun cx hnt hk0=>?_)
   repeat' (first|refine vS fun K hK=>?_|refine hK _ ?_;clear hK K|refine hX ?_;clear hX hY X Y|refine vB ?_|((first|refine vR tok (by rw [hnt];rfl) ?_|refine vC fun X Y hX hY=>?_|refine vT ?_|(refine vF [] ?_))<;>(try simp only [go_sem,qa,qb,qc,qd,qe,qf,qg,qh,qi,qj,qk,ql,qm,qn,qo,qp,qq,qr,qs,reduceIte,reduceCtorEq])))
 by_cases h2:n=2
 · subst h2
   refine vO tok Tryz.func41 rfl rfl Tryz.ntmps41 Tryz.results41 rfl (by decide) (fun cx hnt hk0=>?_)
   repeat' (first|refine vS fun K hK=>?_|refine hK _ ?_;clear hK K|refine hX ?_;clear hX hY X Y|refine hY ?_;clear hX hY X Y|refine vB ?_|((first|refine vR tok (by rw [hnt];rfl) ?_|refine vC fun X Y hX hY=>?_|refine vT ?_|(refine vF [] ?_))<;>(try simp only [go_sem,qa,qb,qc,qd,qe,qf,qg,qh,qi,qj,qk,ql,qm,qn,qo,qp,qq,qr,qs,reduceIte,reduceCtorEq])))
 by_cases h3:n=3
 · subst h3
   refine vO tok Tryz.func41 rfl rfl Tryz.ntmps41 Tryz.results41 rfl (by decide) (fun cx hnt hk0=>?_)
   repeat' (first|refine vS fun K hK=>?_|refine hK _ ?_;clear hK K|refine hX ?_;clear hX hY X Y|refine hY ?_;clear hX hY X Y|refine vB ?_|((first|refine vR tok (by rw [hnt];rfl) ?_|refine vC fun X Y hX hY=>?_|refine vT ?_|(refine vF [] ?_))<;>(try simp only [go_sem,qa,qb,qc,qd,qe,qf,qg,qh,qi,qj,qk,ql,qm,qn,qo,qp,qq,qr,qs,reduceIte,reduceCtorEq])))
 by_cases h4:n=4
 · subst h4
   refine vO tok Tryz.func41 rfl rfl Tryz.ntmps41 Tryz.results41 rfl (by decide) (fun cx hnt hk0=>?_)
   repeat' (first|refine vS fun K hK=>?_|refine hK _ ?_;clear hK K|refine hX ?_;clear hX hY X Y|refine hY ?_;clear hX hY X Y|refine vB ?_|((first|refine vR tok (by rw [hnt];rfl) ?_|refine vC fun X Y hX hY=>?_|refine vT ?_|(refine vF [] ?_))<;>(try simp only [go_sem,qa,qb,qc,qd,qe,qf,qg,qh,qi,qj,qk,ql,qm,qn,qo,qp,qq,qr,qs,reduceIte,reduceCtorEq])))
 rw [if_neg h1,if_neg h2,if_neg h3,if_neg h4]
 refine vO tok Tryz.func41 rfl rfl Tryz.ntmps41 Tryz.results41 rfl (by decide) (fun cx hnt hk0=>?_)
 repeat' (first|refine vS fun K hK=>?_|refine hK _ ?_;clear hK K|refine hY ?_;clear hX hY X Y|refine vB ?_|((first|refine vR tok (by rw [hnt];rfl) ?_|refine vC fun X Y hX hY=>?_|refine vK ?_|refine vT ?_|(refine vF [] ?_))<;>(try simp only [go_sem,qa,qb,qc,qd,qe,qf,qg,qh,qi,qj,qk,ql,qm,qn,qo,qp,qq,qr,qs,reduceIte,reduceCtorEq,h1,h2,h3,h4])))
def setW (n:Int):Str:=if n=1 then [108,105,118,101] else if n=3 then [98,97,99,107] else [100,111,110,101]
theorem settledWord_ok (n:Int):Call Tryz.prog 43 [I n] [] 0 (.o (U (setW n))) [] 0:=by
 unfold setW
 by_cases h1:n=1
 · subst h1
   refine vO tok Tryz.func43 rfl rfl Tryz.ntmps43 Tryz.results43 rfl (by decide) (fun cx hnt hk0=>?_)
   repeat' (first|refine vS fun K hK=>?_|refine hK _ ?_;clear hK K|refine hX ?_;clear hX hY X Y|refine vB ?_|((first|refine vR tok (by rw [hnt];rfl) ?_|refine vC fun X Y hX hY=>?_|refine vT ?_|(refine vF [] ?_))<;>(try simp only [go_sem,qa,qb,qc,qd,qe,qf,qg,qh,qi,qj,qk,ql,qm,qn,qo,qp,qq,qr,qs,reduceIte,reduceCtorEq])))
 by_cases h2:n=3
 · subst h2
   refine vO tok Tryz.func43 rfl rfl Tryz.ntmps43 Tryz.results43 rfl (by decide) (fun cx hnt hk0=>?_)
   repeat' (first|refine vS fun K hK=>?_|refine hK _ ?_;clear hK K|refine hX ?_;clear hX hY X Y|refine hY ?_;clear hX hY X Y|refine vB ?_|((first|refine vR tok (by rw [hnt];rfl) ?_|refine vC fun X Y hX hY=>?_|refine vT ?_|(refine vF [] ?_))<;>(try simp only [go_sem,qa,qb,qc,qd,qe,qf,qg,qh,qi,qj,qk,ql,qm,qn,qo,qp,qq,qr,qs,reduceIte,reduceCtorEq])))
 rw [if_neg h1,if_neg h2]
 refine vO tok Tryz.func43 rfl rfl Tryz.ntmps43 Tryz.results43 rfl (by decide) (fun cx hnt hk0=>?_)
 repeat' (first|refine vS fun K hK=>?_|refine hK _ ?_;clear hK K|refine hY ?_;clear hX hY X Y|refine vB ?_|((first|refine vR tok (by rw [hnt];rfl) ?_|refine vC fun X Y hX hY=>?_|refine vK ?_|refine vT ?_|(refine vF [] ?_))<;>(try simp only [go_sem,qa,qb,qc,qd,qe,qf,qg,qh,qi,qj,qk,ql,qm,qn,qo,qp,qq,qr,qs,reduceIte,reduceCtorEq,h1,h2])))
theorem take_decB (m:List Int) (l:List Str) (i:Nat) (h:i < m.length):l++(m.take (i+1)).map decB=l++(m.take i).map decB++[decB (m.getD i 0)]:=by
 have:m.getD i 0=m[i]:=by simp [List.getD,h]
 rw [List.take_succ_eq_append_getElem h,this,List.map_append,← List.append_assoc];rfl
theorem appendNumbers_ok (l:List Str) (m:List Int) (hl:l.length≤1000) (hm:m.length≤1000) (h:∀ i,0≤m.getD i 0∧m.getD i 0 < 100) :
   Call Tryz.prog 42 [.c (.sl 0 1 0 l.length),.c (.sl 1 1 0 m.length)] [(0,rU l),(1,rI m)] 2 (.o (.c (.sl 2 1 0 (l++m.map decB).length))) [(2,rU (l++m.map decB)),(1,rI m)] 3:=by
 refine vO tok Tryz.func42 rfl rfl Tryz.ntmps42 Tryz.results42 rfl (by decide) (fun cx hnt hk0=>?_)
 repeat' (first|refine vS fun K hK=>?_|refine hK _ ?_;clear hK K|refine vB ?_|((refine vR tok (by rw [hnt];rfl) ?_)<;>(try simp only [go_sem,qa,qb,qc,qd,qe,qf,qg,qh,qi,qj,qk,ql,qm,qn,qo,qp,qq,qr,qs,reduceIte,reduceCtorEq])))
 all_goals try (first|omega|(unfold Big;omega)|(rw [u8m];omega)|(rw [u8M];omega)|(simp only [dA,dB,dC];omega))
 refine AWp.loop (fun i:Nat=>⟨[(0,.o (.c (.sl 2 1 0 (l++(m.take i).map decB).length))),(7,.o (.c (.sl 1 1 0 m.length))),(8,.o (I m.length)),(9,.o (I i))],[(2,rU (l++(m.take i).map decB)),(1,rI m)],3⟩) (fun i=>i≤m.length) (fun i=>m.length - i) 0 (Nat.zero_le _) ?_ ?_
 · refine vL hk0 [] ?_;simp only [go_sem,qa,qb,qc,qd,qe,qf,qg,qh,qi,qj,qk,ql,qm,qn,qo,qp,qq,qr,qs,reduceIte,reduceCtorEq,List.take_zero,List.map_nil,List.append_nil]
   all_goals first|rfl
 intro i hi
 have hi':i≤m.length:=hi
 have h2:(l++(m.take i).map decB).length≤2000:=by simp;omega
 by_cases hlt:i < m.length
 · have e1:=take_decB m l i hlt
   have cI:=Itoa_ok _ (h i).1 (h i).2
   have q1:(List.map decB (List.take i m)).length=i:=by rw [List.length_map,List.length_take];omega
   have q2:(List.map decB (List.take (i+1) m)).length=i+1:=by rw [List.length_map,List.length_take];omega
   repeat' (first|refine bL ?_|refine vS fun K hK=>?_|refine hK _ ?_;clear hK K|refine hX ?_;clear hX hY X Y|refine vB ?_|((first|refine vR tok (by rw [hnt];rfl) ?_|refine vC fun X Y hX hY=>?_|refine vK ?_|refine runS_c [] (cI) rfl ?_ ?_ ?_|refine vL hk0 [] ?_|(apply gC<;>intro hq<;>(try simp only [nT,nF,n1,n0] at hq)<;>(have hb:=hq)<;>(try simp only [dT,dF,eT,eF] at hb)<;>first|(exfalso;omega)|((try simp only [hq]);clear hq)))<;>(try simp only [go_sem,qa,qb,qc,qd,qe,qf,qg,qh,qi,qj,qk,ql,qm,qn,qo,qp,qq,qr,qs,reduceIte,reduceCtorEq,e1]))|refine ⟨i+1,?_,?_,?_⟩|refine Fits.of ?_ ?_|refine aL ?_ fun hp=>?_|refine aE ?_ fun hp=>?_|refine aC ?_ fun hp=>?_|refine And.intro ?_ ?_|clear hK K)
   all_goals try (first|omega|(unfold Big;omega)|(rw [u8m];omega)|(rw [u8M];omega)|(simp only [dA,dB,dC];omega))
   all_goals first|omega
 · have e2:m.take i=m:=List.take_of_length_le (by omega)
   rw [e2]
   repeat' (first|refine vS fun K hK=>?_|refine hK _ ?_;clear hK K|refine hY ?_;clear hX hY X Y|((first|refine vR tok (by rw [hnt];rfl) ?_|refine vC fun X Y hX hY=>?_|refine vE ?_|refine vT ?_|refine vF [] ?_|(apply gC<;>intro hq<;>(try simp only [nT,nF,n1,n0] at hq)<;>(have hb:=hq)<;>(try simp only [dT,dF,eT,eF] at hb)<;>first|(exfalso;omega)|((try simp only [hq]);clear hq)))<;>(try simp only [go_sem,qa,qb,qc,qd,qe,qf,qg,qh,qi,qj,qk,ql,qm,qn,qo,qp,qq,qr,qs,reduceIte,reduceCtorEq]))|clear hK K)
   all_goals first|(first|omega|(unfold Big;omega)|(rw [u8m];omega)|(rw [u8M];omega)|(simp only [dA,dB,dC];omega))
theorem Join_ok (l:List Str) (hl:l ≠ []) (h1:l.length≤1000000) (h2:(Lib.join l [32]).length≤1000000):Call Tryz.prog 45 [.c (.sl 0 1 0 l.length),U [32]] [(0,rU l)] 1 (.o (U (Lib.join l [32]))) [(0,rU l)] 1:=by
 have hn:l.length ≠ 0:=by simpa using hl
 refine CallX.keep ⟨_,Tryz.func45,by kernel_rfl,by kernel_rfl⟩ (fun w A ρ vs hvs hH hA=>?_)
 obtain ⟨⟨⟩⟩:=vs
 · exact hvs.elim
 rename_i v1 vs
 obtain ⟨hv,hvs⟩:=hvs
 cases vs with
 | nil=>exact hvs.elim
 | cons v2 vs =>
 obtain ⟨hv2,hvs⟩:=hvs
 cases vs with
 | cons _ _=>exact hvs.elim
 | nil =>
 have hv2:v2=.string ⟨List.toArray [32]⟩:=hv2.1
 subst hv2
 rcases hv with ⟨h0,_⟩|⟨h0,b,m,cap,hk,rfl,⟨hc1,hc2⟩,_⟩
 · exact absurd h0 hn
 obtain ⟨b',m',hk',⟨cs,e,g1,g2,g3,g4⟩,_,hlt⟩:=hH.objs (0,rU l) (by simp) hn
 have hk':ρ 0=some (b',m'):=hk'
 rw [hk] at hk';injection hk' with hk';injection hk' with e1 e2;subst e1
 have hd:(l.map fun x=>ByteArray.mk (List.toArray x)).map (·.data.toList)=l:=by
   rw [List.map_map]
   have:∀ x:Str,((fun y:ByteArray=>y.data.toList) ∘ fun x:Str=>ByteArray.mk (List.toArray x)) x=x:=by intro x;simp
   rw [List.map_congr_left (fun x _=>this x)];simp
 have hs:(ByteArray.mk (List.toArray [32])).data.toList=[32]:=by simp
 have hj:=Go.Proofs.Tryz.strings_Join b 0 cap (l.map fun x=>ByteArray.mk (List.toArray x)) (ByteArray.mk (List.toArray [32])) w (by
   intro j x hx
   have hj:j < l.length:=by have:=(List.getElem?_eq_some_iff.1 hx).1;simpa using this
   obtain ⟨z,hz1,hz2⟩:=g4 j hj 0 (by omega)
   have hx':x=ByteArray.mk (List.toArray (l.getD j [])):=by
     have:=List.getElem?_eq_some_iff.1 hx
     obtain ⟨q1,q2⟩:=this
     rw [← q2];simp [List.getD,hj]
   rw [Nat.zero_add,cell_of_cells g1,hx']
   have hz2:z=_:=hz2.1
   rw [← hz2];simpa using hz1) hlt (by simp;omega) (by simp;omega) (by rw [hd,hs];omega)
 rw [hd,hs] at hj
 have hlen:(l.map fun x=>ByteArray.mk (List.toArray x)).length=l.length:=by simp
 rw [hlen] at hj
 refine Calls.mono hj ?_
 rintro e w' ⟨rfl,hb⟩
 exact ⟨(),_,trivial,rfl,fun A=>⟨rfl,rfl⟩,hb⟩
end Go.Hw
