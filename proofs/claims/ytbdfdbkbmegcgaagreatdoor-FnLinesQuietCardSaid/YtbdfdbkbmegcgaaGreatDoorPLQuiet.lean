/- What is proved: the walk of the law FnLinesQuiet: whatever the code, it says true. Conditions: the cells of the code are bytes; the listed errors are errors. -/
import Derived.Test.YtbdfdbkbmegcgaaGreatDoorPD1
import Derived.Test.YtbdfdbkbmegcgaaGreatDoorPE1
import Derived.Test.YtbdfdbkbmegcgaaGreatDoorPI4
set_option linter.all false
set_option maxRecDepth 1000000
set_option maxHeartbeats 16000000
open Int renaming reduceToNat→qk,reduceAdd→ql,reduceSub→qm,reduceNeg→qn,reduceLT→qo,reduceLE→qp,reduceEq→qq,reduceBEq→qr,reduceBNe→qs
open Nat renaming reduceDiv→qa,reduceMod→qb,reduceAdd→qc,reduceMul→qd,reduceSub→qe,reduceLeDiff→qf,reduceBEq→qg,reduceEqDiff→qh,reduceBeqDiff→qi,reduceLT→qj
open Go.Hw renaming runG_split→gR,condG_split→gC,takG_split→gT,effG_split→gE
open Go.Hw.AWp renaming region→vR,seq→vS,cond'→vC,block→vB,skip→vK,ret→vT,exit→vE
open Go.Hw.Fin renaming auto→vF
open Go.Hw.CallX renaming of→vO
namespace Go.Hw
open Go.Proofs
attribute [local irreducible] Fits
theorem iQ (s t:Str) (m:Int) (ad:Addr) (e7 e8:Value) (h1:s.length≤2000) (h2:t.length≤10) (h7:∃ te pe,e7=.iface te pe) (h8:∃ te pe,e8=.iface te pe) :
   Call Tryz.prog 14 [U (s++t)] (GL m (.iface 268 (.pointer (some ad))) e7 e8) 4 (.o (U (linesT (s++t)))) (GL m (.iface 268 (.pointer (some ad))) e7 e8) 4 :=
 iLinesRun_ok (s++t) m ad e7 e8 (by rw [List.length_append];omega) h7 h8
theorem FnLinesQuiet_ok (l:List Int) (m:Int) (ad:Addr) (e7 e8:Value) (hb:∀ i,0≤l.getD i 0∧l.getD i 0≤255) (h7:∃ te pe,e7=.iface te pe) (h8:∃ te pe,e8=.iface te pe) (hs:(l.length:Int)≤1048576) :
   Call Tryz.prog 3 [.c (.t (bytesT l))] (GL m (.iface 268 (.pointer (some ad))) e7 e8) 4 (.o (BB true)) (GL m (.iface 268 (.pointer (some ad))) e7 e8) 4:=by
 have h':¬ (1048576:Int) < l.length:=by omega
 refine vO tok Tryz.func3 rfl rfl Tryz.ntmps3 Tryz.results3 rfl (by decide) (fun cx hnt hk0=>?_)

 repeat' (first|refine bL ?_|refine vS fun K hK=>?_|refine hK _ ?_;clear hK K|refine hX ?_;clear hX hY X Y|refine hY ?_;clear hX hY X Y|((first|refine vR tok (by rw [hnt];rfl) ?_|refine vC fun X Y hX hY=>?_|refine vK ?_|refine vT ?_|refine vF [] ?_|(refine runS_at [] (DrawLinesRun_ok l hb hs) rfl ?_ ?_ (fun y hy=>?_))|(refine runS_c [0,1,2,3] (iQ _ _ m ad e7 e8 (by omega) (by decide) h7 h8) rfl ?_ ?_ ?_)|(refine runS_c [0,1,2,3] (iLinesRun_ok _ m ad e7 e8 (by omega) h7 h8) rfl ?_ ?_ ?_)|(refine runS_c [] (sLinesRun_ok _ (by omega)) rfl ?_ ?_ ?_)|((first|apply gR|apply gC)<;>intro hq<;>(try simp only [nT,nF,n1,n0] at hq)<;>(have hb:=hq)<;>(try simp only [dT,dF,eT,eF] at hb)<;>first|(exfalso;omega)|((try simp only [hq]);clear hq)))<;>(try simp only [go_sem,qa,qb,qc,qd,qe,qf,qg,qh,qi,qj,qk,ql,qm,qn,qo,qp,qq,qr,qs,reduceIte,reduceCtorEq,h',List.append_eq,List.cons_append,List.nil_append]))|refine Fits.of ?_ ?_|refine aE ?_ fun hp=>?_|refine And.intro ?_ ?_|clear hK K)
 all_goals try (first|omega|(unfold Big;omega)|(rw [u8m];omega)|(rw [u8M];omega)|(simp only [dA,dB,dC];omega))
 all_goals (
   have w1:=linesT_len y
   have w2:=linesT_what (s:=y) hy.2 (by omega)
   have w3:=linesT_see (s:=y) hy.2 (by omega)
   have w4:y++(txWhat++[10])=y++[119,104,97,116,10]:=rfl
   have w5:y++(txSee++[10])=y++[115,101,101,10]:=rfl
   rw [w4] at w2
   rw [w5] at w3
   (first|omega|(unfold Big;omega)|(rw [u8m];omega)|(rw [u8M];omega)|(simp only [dA,dB,dC];omega)))
theorem FnLinesQuiet_long (l:List Int) (m:Int) (ad:Addr) (e7 e8:Value) (hb:∀ i,0≤l.getD i 0∧l.getD i 0≤255) (h7:∃ te pe,e7=.iface te pe) (h8:∃ te pe,e8=.iface te pe) (hs:(1048576:Int) < l.length) :
   Call Tryz.prog 3 [.c (.t (bytesT l))] (GL m (.iface 268 (.pointer (some ad))) e7 e8) 4 (.o (BB true)) (GL m (.iface 268 (.pointer (some ad))) e7 e8) 4:=by
 refine vO tok Tryz.func3 rfl rfl Tryz.ntmps3 Tryz.results3 rfl (by decide) (fun cx hnt hk0=>?_)
 repeat' (first|refine vS fun K hK=>?_|refine hK _ ?_;clear hK K|refine hX ?_;clear hX hY X Y|((first|refine vR tok (by rw [hnt];rfl) ?_|refine vC fun X Y hX hY=>?_|refine vT ?_|(refine vF [] ?_))<;>(try simp only [go_sem,qa,qb,qc,qd,qe,qf,qg,qh,qi,qj,qk,ql,qm,qn,qo,qp,qq,qr,qs,reduceIte,reduceCtorEq,hs])))
 all_goals first|(first|omega|(unfold Big;omega)|(rw [u8m];omega)|(rw [u8M];omega)|(simp only [dA,dB,dC];omega))|omega
theorem FnLinesQuiet_all (l:List Int) (m:Int) (ad:Addr) (e7 e8:Value) (hb:∀ i,0≤l.getD i 0∧l.getD i 0≤255) (h7:∃ te pe,e7=.iface te pe) (h8:∃ te pe,e8=.iface te pe) :
   Call Tryz.prog 3 [.c (.t (bytesT l))] (GL m (.iface 268 (.pointer (some ad))) e7 e8) 4 (.o (BB true)) (GL m (.iface 268 (.pointer (some ad))) e7 e8) 4:=by
 by_cases h:(l.length:Int)≤1048576
 · exact FnLinesQuiet_ok l m ad e7 e8 hb h7 h8 h
 · exact FnLinesQuiet_long l m ad e7 e8 hb h7 h8 (by omega)
end Go.Hw
