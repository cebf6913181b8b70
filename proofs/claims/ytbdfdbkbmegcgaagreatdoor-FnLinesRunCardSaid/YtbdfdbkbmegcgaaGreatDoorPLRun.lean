/- What is proved: the walk of the law FnLinesRun: whatever the code, it says true. Conditions: the cells of the code are bytes; the listed errors are errors. -/
import Derived.Test.YtbdfdbkbmegcgaaGreatDoorPD1
import Derived.Test.YtbdfdbkbmegcgaaGreatDoorPE1
import Derived.Test.YtbdfdbkbmegcgaaGreatDoorPI4
set_option linter.all false
set_option maxRecDepth 1000000
set_option maxHeartbeats 16000000
open Int renaming reduceToNat→qk,reduceAdd→ql,reduceSub→qm,reduceNeg→qn,reduceLT→qo,reduceLE→qp,reduceEq→qq,reduceBEq→qr,reduceBNe→qs
open Nat renaming reduceDiv→qa,reduceMod→qb,reduceAdd→qc,reduceMul→qd,reduceSub→qe,reduceLeDiff→qf,reduceBEq→qg,reduceEqDiff→qh,reduceBeqDiff→qi,reduceLT→qj
open Go.Hw renaming runG_split→gR,condG_split→gC,takG_split→gT,effG_split→gE
open Go.Hw.AWp renaming region→vR,seq→vS,cond'→vC,block→vB,skip→vK,ret→vT,exit→vE
open Go.Hw.Fin renaming auto→vF
open Go.Hw.SLe renaming auto→vL
open Go.Hw.CallX renaming of→vO
namespace Go.Hw
open Go.Proofs
attribute [local irreducible] Fits
theorem nat_eq10 (x:UInt8):((x.toNat:Int)=10)=(x=10):=by
 refine propext ⟨fun h=>?_,fun h=>by rw [h];rfl⟩
 apply UInt8.toNat.inj
 show x.toNat=10
 omega
def jR (s:Str) (m:Int) (ad:Addr) (e7 e8:Value) (i:Nat):St:=⟨[(4,.o (U s)),(5,.o (I (nlN s i))),(6,.o (I i))],[(0,.glob 0 (.int .i64 m)),(1,.glob 1 (.iface 268 (.pointer (some ad)))),(2,.glob 7 e7),(3,.glob 8 e8)],4⟩
theorem FnLinesRun_ok (l:List Int) (m:Int) (ad:Addr) (e7 e8:Value) (hb:∀ i,0≤l.getD i 0∧l.getD i 0≤255) (h7:∃ te pe,e7=.iface te pe) (h8:∃ te pe,e8=.iface te pe) (hs:(l.length:Int)≤1048576) :
   Call Tryz.prog 4 [.c (.t (bytesT l))] (GL m (.iface 268 (.pointer (some ad))) e7 e8) 4 (.o (BB true)) (GL m (.iface 268 (.pointer (some ad))) e7 e8) 4:=by
 have h':¬ (1048576:Int) < l.length:=by omega
 refine vO tok Tryz.func4 rfl rfl Tryz.ntmps4 Tryz.results4 rfl (by decide) (fun cx hnt hk0=>?_)

 repeat' (first|refine vS fun K hK=>?_|refine hK _ ?_;clear hK K|refine hX ?_;clear hX hY X Y|refine hY ?_;clear hX hY X Y|refine vB ?_|((first|refine vR tok (by rw [hnt];rfl) ?_|refine vC fun X Y hX hY=>?_|refine vK ?_|refine vT ?_|refine vF [] ?_|(refine runS_at [] (DrawLinesRun_ok l hb hs) rfl ?_ ?_ (fun y hy=>?_))|(refine runS_c [0,1,2,3] (iLinesRun_ok _ m ad e7 e8 (by omega) h7 h8) rfl ?_ ?_ ?_)|(refine runS_c [] (sLinesRun_ok _ (by omega)) rfl ?_ ?_ ?_)|(apply gC<;>intro hq<;>(try simp only [nT,nF,n1,n0] at hq)<;>(have hb:=hq)<;>(try simp only [dT,dF,eT,eF] at hb)<;>first|(exfalso;omega)|((try simp only [hq]);clear hq)))<;>(try simp only [go_sem,qa,qb,qc,qd,qe,qf,qg,qh,qi,qj,qk,ql,qm,qn,qo,qp,qq,qr,qs,reduceIte,reduceCtorEq,h',List.append_eq,List.cons_append,List.nil_append]))|clear hK K)
 all_goals try (first|omega|(unfold Big;omega)|(rw [u8m];omega)|(rw [u8M];omega)|(simp only [dA,dB,dC];omega))
 · rw [linesT_long (by omega)];rfl
 · obtain ⟨t1,t2,t3⟩:=linesT_two (s:=y) (by omega)
   have tl:=linesT_len y
   generalize linesT y=s at t1 t2 t3 tl ⊢
   refine AWp.loop (jR s m ad e7 e8) (fun i=>i≤s.length) (fun i=>s.length - i) 0 (Nat.zero_le _) ?_ ?_
   · refine vL hk0 [] ?_;simp only [go_sem,qa,qb,qc,qd,qe,qf,qg,qh,qi,qj,qk,ql,qm,qn,qo,qp,qq,qr,qs,reduceIte,reduceCtorEq,jR,nlN_zero,Int.natCast_zero]
     all_goals first|rfl
   intro i hi
   have hi':i≤s.length:=hi
   have hz:((i:Int)+1)=((i+1:Nat):Int):=by omega
   have hq1:nlN s i≤s.length:=by unfold nlN;exact Nat.le_trans List.count_le_length (by rw [List.length_take];omega)
   by_cases hlt:i < s.length
   · have e1:=nlN_succ hlt
     by_cases hx:s.getD i 0=10
     · rw [if_pos hx] at e1
       repeat' (first|refine bL ?_|refine vS fun K hK=>?_|refine hK _ ?_;clear hK K|refine hX ?_;clear hX hY X Y|refine vB ?_|((first|refine vR tok (by rw [hnt];rfl) ?_|refine vC fun X Y hX hY=>?_|refine vK ?_|refine vL hk0 [] ?_|(apply gC<;>intro hq<;>(try simp only [nT,nF,n1,n0] at hq)<;>(have hb:=hq)<;>(try simp only [dT,dF,eT,eF] at hb)<;>first|(exfalso;omega)|((try simp only [hq]);clear hq)))<;>(try simp only [go_sem,qa,qb,qc,qd,qe,qf,qg,qh,qi,qj,qk,ql,qm,qn,qo,qp,qq,qr,qs,reduceIte,reduceCtorEq,jR,e1,hx,hz]))|refine ⟨i+1,?_,?_,?_⟩|refine Fits.of ?_ ?_|refine aE ?_ fun hp=>?_|refine aC ?_ fun hp=>?_|refine And.intro ?_ ?_|clear hK K)
       all_goals first|(first|omega|(unfold Big;omega)|(rw [u8m];omega)|(rw [u8M];omega)|(simp only [dA,dB,dC];omega))
     · rw [if_neg hx] at e1
       repeat' (first|refine bL ?_|refine vS fun K hK=>?_|refine hK _ ?_;clear hK K|refine hX ?_;clear hX hY X Y|refine hY ?_;clear hX hY X Y|refine vB ?_|((first|refine vR tok (by rw [hnt];rfl) ?_|refine vC fun X Y hX hY=>?_|refine vK ?_|refine vL hk0 [] ?_|(apply gC<;>intro hq<;>(try simp only [nT,nF,n1,n0] at hq)<;>(have hb:=hq)<;>(try simp only [dT,dF,eT,eF] at hb)<;>first|(exfalso;omega)|((try simp only [hq]);clear hq)))<;>(try simp only [go_sem,qa,qb,qc,qd,qe,qf,qg,qh,qi,qj,qk,ql,qm,qn,qo,qp,qq,qr,qs,reduceIte,reduceCtorEq,jR,e1,hx,hz]))|refine ⟨i+1,?_,?_,?_⟩|refine Fits.of ?_ ?_|refine aE ?_ fun hp=>?_|refine aC ?_ fun hp=>?_|refine And.intro ?_ ?_|clear hK K)
       all_goals try (first|omega|(unfold Big;omega)|(rw [u8m];omega)|(rw [u8M];omega)|(simp only [dA,dB,dC];omega))
       rw [nat_eq10] at hb
       exact absurd hb hx
   · obtain rfl:i=s.length:=by omega
     repeat' (first|refine bL ?_|refine vS fun K hK=>?_|refine hK _ ?_;clear hK K|refine hY ?_;clear hX hY X Y|((first|refine vR tok (by rw [hnt];rfl) ?_|refine vC fun X Y hX hY=>?_|refine vE ?_|refine vT ?_|refine vF [] ?_|((first|apply gR|apply gC)<;>intro hq<;>(try simp only [nT,nF,n1,n0] at hq)<;>(have hb:=hq)<;>(try simp only [dT,dF,eT,eF] at hb)<;>first|(exfalso;omega)|((try simp only [hq]);clear hq)))<;>(try simp only [go_sem,qa,qb,qc,qd,qe,qf,qg,qh,qi,qj,qk,ql,qm,qn,qo,qp,qq,qr,qs,reduceIte,reduceCtorEq,jR]))|refine Fits.of ?_ ?_|refine aE ?_ fun hp=>?_|refine aC ?_ fun hp=>?_|refine And.intro ?_ ?_|clear hK K)
     all_goals try (first|omega|(unfold Big;omega)|(rw [u8m];omega)|(rw [u8M];omega)|(simp only [dA,dB,dC];omega))
     have e9:((s.length:Int) - 1).toNat=s.length - 1:=by omega
     rw [e9,t2];rfl
theorem FnLinesRun_long (l:List Int) (m:Int) (ad:Addr) (e7 e8:Value) (hb:∀ i,0≤l.getD i 0∧l.getD i 0≤255) (h7:∃ te pe,e7=.iface te pe) (h8:∃ te pe,e8=.iface te pe) (hs:(1048576:Int) < l.length) :
   Call Tryz.prog 4 [.c (.t (bytesT l))] (GL m (.iface 268 (.pointer (some ad))) e7 e8) 4 (.o (BB true)) (GL m (.iface 268 (.pointer (some ad))) e7 e8) 4:=by
 refine vO tok Tryz.func4 rfl rfl Tryz.ntmps4 Tryz.results4 rfl (by decide) (fun cx hnt hk0=>?_)
 repeat' (first|refine vS fun K hK=>?_|refine hK _ ?_;clear hK K|refine hX ?_;clear hX hY X Y|((first|refine vR tok (by rw [hnt];rfl) ?_|refine vC fun X Y hX hY=>?_|refine vT ?_|(refine vF [] ?_))<;>(try simp only [go_sem,qa,qb,qc,qd,qe,qf,qg,qh,qi,qj,qk,ql,qm,qn,qo,qp,qq,qr,qs,reduceIte,reduceCtorEq,hs])))
 all_goals first|(first|omega|(unfold Big;omega)|(rw [u8m];omega)|(rw [u8M];omega)|(simp only [dA,dB,dC];omega))|omega
theorem FnLinesRun_all (l:List Int) (m:Int) (ad:Addr) (e7 e8:Value) (hb:∀ i,0≤l.getD i 0∧l.getD i 0≤255) (h7:∃ te pe,e7=.iface te pe) (h8:∃ te pe,e8=.iface te pe) :
   Call Tryz.prog 4 [.c (.t (bytesT l))] (GL m (.iface 268 (.pointer (some ad))) e7 e8) 4 (.o (BB true)) (GL m (.iface 268 (.pointer (some ad))) e7 e8) 4:=by
 by_cases h:(l.length:Int)≤1048576
 · exact FnLinesRun_ok l m ad e7 e8 hb h7 h8 h
 · exact FnLinesRun_long l m ad e7 e8 hb h7 h8 (by omega)
end Go.Hw
