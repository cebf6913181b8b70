/- What is proved: the walk of the law FnLinesNone: whatever the code, it says true. Conditions: the cells of the code are bytes; the listed errors are errors. -/
import Derived.Test.YtbdfdbkbmegcgaaGreatDoorPD1
import Derived.Test.YtbdfdbkbmegcgaaGreatDoorPE1
import Derived.Test.YtbdfdbkbmegcgaaGreatDoorPI4
set_option linter.all false
set_option maxRecDepth 1000000
set_option maxHeartbeats 16000000
open Int renaming reduceToNat→qk,reduceAdd→ql,reduceSub→qm,reduceNeg→qn,reduceLT→qo,reduceLE→qp,reduceEq→qq,reduceBEq→qr,reduceBNe→qs
open Nat renaming reduceDiv→qa,reduceMod→qb,reduceAdd→qc,reduceMul→qd,reduceSub→qe,reduceLeDiff→qf,reduceBEq→qg,reduceEqDiff→qh,reduceBeqDiff→qi,reduceLT→qj
open Go.Hw renaming runG_split→gR,condG_split→gC,takG_split→gT,effG_split→gE
open Go.Hw.AWp renaming region→vR,seq→vS,cond'→vC,block→vB,skip→vK,ret→vT,exit→vE
open Go.Hw.Fin renaming auto→vF
open Go.Hw.SLe renaming auto→vL
open Go.Hw.CallX renaming of→vO
namespace Go.Hw
open Go.Proofs
attribute [local irreducible] Fits
theorem tx_none0:linesT []=[49,32,110,111,110,101,32,49,32,48,32,111,119,110,32,49,48,32,49,48,32,49,48,32,108,111,99,107,101,100,32,48,32,110,111,116,101,115,32,48,32,48,32,48,10,50,32,110,111,110,101,32,49,32,48,32,111,119,110,32,49,48,32,49,48,32,49,48,32,108,111,99,107,101,100,32,48,32,110,111,116,101,115,32,48,32,48,32,48,10]:=by decide +kernel
theorem tx_none1:linesT [119,104,97,116,10,99,97,108,109,10,99,97,108,109,32,51,49,10]=[119,104,97,116,10,119,104,97,116,10,119,104,97,116,10,49,32,110,111,110,101,32,49,32,48,32,111,119,110,32,49,48,32,49,48,32,49,48,32,108,111,99,107,101,100,32,48,32,110,111,116,101,115,32,48,32,48,32,48,10,50,32,110,111,110,101,32,49,32,48,32,111,119,110,32,49,48,32,49,48,32,49,48,32,108,111,99,107,101,100,32,48,32,110,111,116,101,115,32,48,32,48,32,48,10]:=by decide +kernel
theorem tx_none2:linesT [115,101,110,100,32,49,32,49,32,49,32,50,32,51,32,57,10,98,108,111,99,107,32,51,10,103,101,116,10,116,101,108,108,32,49,10,107,110,111,119,32,49,32,49,10]=[49,32,110,111,110,101,32,49,32,48,32,111,119,110,32,49,48,32,49,48,32,49,48,32,108,111,99,107,101,100,32,48,32,110,111,116,101,115,32,48,32,48,32,48,10,50,32,110,111,110,101,32,49,32,48,32,111,119,110,32,49,48,32,49,48,32,49,48,32,108,111,99,107,101,100,32,48,32,110,111,116,101,115,32,48,32,48,32,48,10]:=by decide +kernel
abbrev txN:Str:=[110,111,116,104,105,110,103,32,97,116,32,97,108,108,10]
def jN (m:Int) (ad:Addr) (e7 e8:Value) (s:Str):St:=⟨[(5,.o (U s))],[(0,.glob 0 (.int .i64 m)),(1,.glob 1 (.iface 268 (.pointer (some ad)))),(2,.glob 7 e7),(3,.glob 8 e8)],4⟩
theorem FnLinesNone_ok (l:List Int) (m:Int) (ad:Addr) (e7 e8:Value) (hb:∀ i,0≤l.getD i 0∧l.getD i 0≤255) (h7:∃ te pe,e7=.iface te pe) (h8:∃ te pe,e8=.iface te pe) (hs:(l.length:Int)≤1048576) :
   Call Tryz.prog 11 [.c (.t (bytesT l))] (GL m (.iface 268 (.pointer (some ad))) e7 e8) 4 (.o (BB true)) (GL m (.iface 268 (.pointer (some ad))) e7 e8) 4:=by
 have h':¬ (1048576:Int) < l.length:=by omega
 have c0:=iLinesRun_ok [] m ad e7 e8 (by decide) h7 h8
 rw [tx_none0] at c0
 have c1:=iLinesRun_ok [119,104,97,116,10,99,97,108,109,10,99,97,108,109,32,51,49,10] m ad e7 e8 (by decide) h7 h8
 rw [tx_none1] at c1
 have c2:=iLinesRun_ok [115,101,110,100,32,49,32,49,32,49,32,50,32,51,32,57,10,98,108,111,99,107,32,51,10,103,101,116,10,116,101,108,108,32,49,10,107,110,111,119,32,49,32,49,10] m ad e7 e8 (by decide) h7 h8
 rw [tx_none2] at c2
 refine vO tok Tryz.func11 rfl rfl Tryz.ntmps11 Tryz.results11 rfl (by decide) (fun cx hnt hk0=>?_)

 repeat' (first|refine vS fun K hK=>?_|refine hK _ ?_;clear hK K|refine hY ?_;clear hX hY X Y|refine vB ?_|((first|refine vR tok (by rw [hnt];rfl) ?_|refine vC fun X Y hX hY=>?_|refine vK ?_|(refine runS_at [] (DrawLinesRun_ok l hb hs) rfl ?_ ?_ (fun y hy=>?_))|(refine runS_c [0,1,2,3] (iLinesRun_ok _ m ad e7 e8 (by omega) h7 h8) rfl ?_ ?_ ?_)|(refine runS_c [] (sLinesRun_ok _ (by omega)) rfl ?_ ?_ ?_))<;>(try simp only [go_sem,qa,qb,qc,qd,qe,qf,qg,qh,qi,qj,qk,ql,qm,qn,qo,qp,qq,qr,qs,reduceIte,reduceCtorEq,h',List.append_eq,List.cons_append,List.nil_append])))
 all_goals try (first|omega|(unfold Big;omega)|(rw [u8m];omega)|(rw [u8M];omega)|(simp only [dA,dB,dC];omega))
 refine AWp.loop (jN m ad e7 e8) (fun s=>s.length≤2000) (fun s=>2000 - s.length) y hy.1 ?_ ?_
 · refine vL hk0 [] ?_;simp only [go_sem,qa,qb,qc,qd,qe,qf,qg,qh,qi,qj,qk,ql,qm,qn,qo,qp,qq,qr,qs,reduceIte,reduceCtorEq,jN]
 intro s hi
 have hi':s.length≤2000:=hi
 by_cases hlt:(s.length:Int)≤600
 · repeat' (first|refine bL ?_|refine vS fun K hK=>?_|refine hK _ ?_;clear hK K|refine hX ?_;clear hX hY X Y|refine vB ?_|((first|refine vR tok (by rw [hnt];rfl) ?_|refine vC fun X Y hX hY=>?_|refine vK ?_|refine vL hk0 [] ?_|(apply gC<;>intro hq<;>(try simp only [nT,nF,n1,n0] at hq)<;>(have hb:=hq)<;>(try simp only [dT,dF,eT,eF] at hb)<;>first|(exfalso;omega)|((try simp only [hq]);clear hq)))<;>(try simp only [go_sem,qa,qb,qc,qd,qe,qf,qg,qh,qi,qj,qk,ql,qm,qn,qo,qp,qq,qr,qs,reduceIte,reduceCtorEq,jN,txN]))|refine ⟨s++txN,?_,?_,?_⟩|refine aE ?_ fun hp=>?_|clear hK K)
   all_goals try (first|omega|(unfold Big;omega)|(rw [u8m];omega)|(rw [u8M];omega)|(simp only [dA,dB,dC];omega))
   all_goals (simp only [List.length_append,txN,List.length_cons,List.length_nil];omega)
 · have cX:=iLinesRun_ok s m ad e7 e8 (by omega) h7 h8
   rw [linesT_long (by omega),tooLong] at cX
   repeat' (first|refine bL ?_|refine vS fun K hK=>?_|refine hK _ ?_;clear hK K|refine hY ?_;clear hX hY X Y|((first|refine vR tok (by rw [hnt];rfl) ?_|refine vC fun X Y hX hY=>?_|refine vE ?_|refine vT ?_|refine vF [] ?_|refine runS_c [0,1,2,3] (c0) rfl ?_ ?_ ?_|refine runS_c [0,1,2,3] (c1) rfl ?_ ?_ ?_|refine runS_c [0,1,2,3] (c2) rfl ?_ ?_ ?_|refine runS_c [0,1,2,3] (cX) rfl ?_ ?_ ?_|(apply gC<;>intro hq<;>(try simp only [nT,nF,n1,n0] at hq)<;>(have hb:=hq)<;>(try simp only [dT,dF,eT,eF] at hb)<;>first|(exfalso;omega)|((try simp only [hq]);clear hq)))<;>(try simp only [go_sem,qa,qb,qc,qd,qe,qf,qg,qh,qi,qj,qk,ql,qm,qn,qo,qp,qq,qr,qs,reduceIte,reduceCtorEq,jN,h',List.append_eq,List.cons_append,List.nil_append]))|refine aE ?_ fun hp=>?_|clear hK K)
   all_goals try (first|omega|(unfold Big;omega)|(rw [u8m];omega)|(rw [u8M];omega)|(simp only [dA,dB,dC];omega))
theorem FnLinesNone_long (l:List Int) (m:Int) (ad:Addr) (e7 e8:Value) (hb:∀ i,0≤l.getD i 0∧l.getD i 0≤255) (h7:∃ te pe,e7=.iface te pe) (h8:∃ te pe,e8=.iface te pe) (hs:(1048576:Int) < l.length) :
   Call Tryz.prog 11 [.c (.t (bytesT l))] (GL m (.iface 268 (.pointer (some ad))) e7 e8) 4 (.o (BB true)) (GL m (.iface 268 (.pointer (some ad))) e7 e8) 4:=by
 refine vO tok Tryz.func11 rfl rfl Tryz.ntmps11 Tryz.results11 rfl (by decide) (fun cx hnt hk0=>?_)
 repeat' (first|refine vS fun K hK=>?_|refine hK _ ?_;clear hK K|refine hX ?_;clear hX hY X Y|((first|refine vR tok (by rw [hnt];rfl) ?_|refine vC fun X Y hX hY=>?_|refine vT ?_|(refine vF [] ?_))<;>(try simp only [go_sem,qa,qb,qc,qd,qe,qf,qg,qh,qi,qj,qk,ql,qm,qn,qo,qp,qq,qr,qs,reduceIte,reduceCtorEq,hs])))
 all_goals first|(first|omega|(unfold Big;omega)|(rw [u8m];omega)|(rw [u8M];omega)|(simp only [dA,dB,dC];omega))|omega
theorem FnLinesNone_all (l:List Int) (m:Int) (ad:Addr) (e7 e8:Value) (hb:∀ i,0≤l.getD i 0∧l.getD i 0≤255) (h7:∃ te pe,e7=.iface te pe) (h8:∃ te pe,e8=.iface te pe) :
   Call Tryz.prog 11 [.c (.t (bytesT l))] (GL m (.iface 268 (.pointer (some ad))) e7 e8) 4 (.o (BB true)) (GL m (.iface 268 (.pointer (some ad))) e7 e8) 4:=by
 by_cases h:(l.length:Int)≤1048576
 · exact FnLinesNone_ok l m ad e7 e8 hb h7 h8 h
 · exact FnLinesNone_long l m ad e7 e8 hb h7 h8 (by omega)
end Go.Hw
