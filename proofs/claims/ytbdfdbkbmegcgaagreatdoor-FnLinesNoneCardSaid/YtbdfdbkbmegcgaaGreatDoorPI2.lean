/- What is proved here: parts of the walk of the law and of its plain side; no condition but those that each theorem states. -/
import Derived.Test.YtbdfdbkbmegcgaaGreatDoorPH3
import Derived.Test.YtbdfdbkbmegcgaaGreatDoorPH4
import Derived.Test.YtbdfdbkbmegcgaaGreatDoorPI1
import Derived.Test.YtbdfdbkbmegcgaaGreatDoorPS1
set_option linter.all false
set_option maxRecDepth 100000
set_option maxHeartbeats 16000000
open Int renaming reduceToNat→qk,reduceAdd→ql,reduceSub→qm,reduceNeg→qn,reduceLT→qo,reduceLE→qp,reduceEq→qq,reduceBEq→qr,reduceBNe→qs
open Nat renaming reduceDiv→qa,reduceMod→qb,reduceAdd→qc,reduceMul→qd,reduceSub→qe,reduceLeDiff→qf,reduceBEq→qg,reduceEqDiff→qh,reduceBeqDiff→qi,reduceLT→qj
open Go.Hw renaming runG_split→gR,condG_split→gC,takG_split→gT,effG_split→gE
open Go.Hw.AWp renaming region→vR,seq→vS,cond'→vC,block→vB,skip→vK,ret→vT,exit→vE
open Go.Hw.Fin renaming auto→vF
open Go.Hw.CallX renaming of→vO
namespace Go.Hw
open Go.Proofs
attribute [local irreducible] Fits
section
variable {j g k:Nat} {v:Value} {r:Heap}
@[go_sem] theorem globV_g:globV ((j,.glob g v) ::r) k=bif Nat.beq g k then some v else globV r k:=rfl
@[go_sem] theorem globV_box {l:List Cell}:globV ((j,.box l) ::r) k=globV r k:=rfl
@[go_sem] theorem globV_row {wd n:Nat} {f:Nat→Nat→Cell}:globV ((j,.row wd n f) ::r) k=globV r k:=rfl
@[go_sem] theorem globV_raw {o:Obj}:globV ((j,.raw o) ::r) k=globV r k:=rfl
@[go_sem] theorem globV_tbx {e:TypeId} {l:List Cell}:globV ((j,.tbx e l) ::r) k=globV r k:=rfl
@[go_sem] theorem globV_buf {l:Str} {z:Nat}:globV ((j,bufO l z) ::r) k=globV r k:=by unfold bufO;split<;>rfl
@[go_sem] theorem globL_p {x:TI} {h:Heap}:globL x h (.pointer (some ⟨g,0,none⟩))=bif x.agg then none else ob (globV h g) fun v=>some (True,.c (.t (.v v))):=by
 unfold globL
 cases x.agg
 · simp only [cond_false];cases globV h g<;>rfl
 · rfl
end
theorem CallX.pick {α β:Type} {P:Program} {f:FuncId} {args:List A1} {H:Heap} {k k':Nat} {p:α→Prop} {res:α→AV} {H':α→Heap} {q:β→Prop} {res2:β→AV} {H2:β→Heap} (h:CallX P f args H k p res H' k') (g:∀ x,p x→∃ y,q y∧res x=res2 y∧H' x=H2 y):CallX P f args H k q res2 H2 k':=by
 obtain ⟨h1,h2,h3⟩:=h
 refine ⟨h1,h2,fun w A ρ vs a b c d=>(h3 w A ρ vs a b c d).mono ?_⟩
 rintro e w' ⟨x,v,A',ρ',hp,rest⟩
 obtain ⟨y,hy,e1,e2⟩:=g x hp
 rw [e1,e2] at rest
 exact ⟨y,v,A',ρ',hy,rest⟩
theorem Atoi_yes (s:Str) (e7 e8:Value) (hs:s.length≤1000000) (h7:∃ te pe,e7=.iface te pe) (h8:∃ te pe,e8=.iface te pe) (h:atoiOk s=true) :
   Call Tryz.prog 174 [U s] [(0,.glob 7 e7),(1,.glob 8 e8)] 2 (.tup [I (atoiV s),.c (.t (.v .nilIface))]) [(0,.glob 7 e7),(1,.glob 8 e8)] 2 :=
 (Atoi_ok s e7 e8 hs h7 h8).pick fun x hx=>⟨(),trivial,by rw [hx h];unfold errC;rw [if_pos h],rfl⟩
theorem Atoi_no (s:Str) (e7 e8:Value) (hs:s.length≤1000000) (h7:∃ te pe,e7=.iface te pe) (h8:∃ te pe,e8=.iface te pe) (h:¬ atoiOk s=true) :
   CallX (α:=Nat × Int) Tryz.prog 174 [U s] [(0,.glob 7 e7),(1,.glob 8 e8)] 2 (fun _=>True) (fun x=>.tup [I x.2,.c (.t (.v (.iface 257 (.pointer (some ⟨x.1,0,none⟩)))))]) (fun _=>[(0,.glob 7 e7),(1,.glob 8 e8)]) 2 :=
 (Atoi_ok s e7 e8 hs h7 h8).pick fun x hx=>⟨x,trivial,by unfold errC;rw [if_neg h],rfl⟩
theorem iPacketText_ok (p:Packet):Call Tryz.prog 176 [p.av] [] 0 (.o (U p.textV)) [] 0:=by
 by_cases h:p.ok=true
 · exact iPacketText_yes p h
 · exact iPacketText_no p h
def GL (m:Int) (e1 e7 e8:Value):Heap:=[(0,.glob 0 (.int .i64 m)),(1,.glob 1 e1),(2,.glob 7 e7),(3,.glob 8 e8)]
attribute [go_sem] GL
theorem cut_piece2 (c:UInt8) (s:Str) (i:Nat):((cut c s).getD i []).length≤s.length:=by
 have hl:=cutR_len c s
 rw [← cut_eq] at hl
 have:∀ (l:List Str) (i:Nat),(l.getD i []).length+l.length≤sumLen l+l.length:=by
   intro l
   induction l with
   | nil=>intro i;simp [sumLen]
   | cons x l ih=>intro i;cases i with
     | zero=>simp [sumLen]
     | succ i=>have:=ih i;simp [sumLen] at this ⊢;omega
 have h2:=this (cut c s) i
 have h3:=cut_len c s
 omega
theorem parse_long (s:Str) (m:Int) (a:Addr) (e7 e8:Value) (hs:s.length≤1000000) (h7:∃ te pe,e7=.iface te pe) (h8:∃ te pe,e8=.iface te pe) (h:¬ s.length≤24) :
   Call Tryz.prog 142 [U s] (GL m (.iface 268 (.pointer (some a))) e7 e8) 4 (.tup [Packet.none.av,.c (.t (.v (.iface 268 (.pointer (some a)))))]) (GL m (.iface 268 (.pointer (some a))) e7 e8) 4:=by
 refine vO tok Tryz.func142 rfl rfl Tryz.ntmps142 Tryz.results142 rfl (by decide) (fun cx hnt hk0=>?_)

 repeat' (first|refine vS fun K hK=>?_|refine hK _ ?_;clear hK K|refine hX ?_;clear hX hY X Y|((first|refine vR tok (by rw [hnt];rfl) ?_|refine vC fun X Y hX hY=>?_|refine vT ?_|refine vF [] ?_|(refine AWp.draw (id:=2) tok mixed (.tak 1 (.all (.cons 0 (.all (.cons 2 (.tak 3 .done) .nil)) .nil))) [0,1,2,3] [2] (by kernel_rfl) (by kernel_rfl) (by rw [hnt];rfl) ?_)|(apply gC<;>intro hq<;>(try simp only [nT,nF,n1,n0] at hq)<;>(have hb:=hq)<;>(try simp only [dT,dF,eT,eF] at hb)<;>first|(exfalso;omega)|((try simp only [hq]);clear hq)))<;>(try simp only [go_sem,qa,qb,qc,qd,qe,qf,qg,qh,qi,qj,qk,ql,qm,qn,qo,qp,qq,qr,qs,reduceIte,reduceCtorEq,Packet.none])))
 all_goals first|(first|omega|(unfold Big;omega)|(rw [u8m];omega)|(rw [u8M];omega)|(simp only [dA,dB,dC];omega))
theorem parse_few (s:Str) (m:Int) (a:Addr) (e7 e8:Value) (hs:s.length≤1000000) (h7:∃ te pe,e7=.iface te pe) (h8:∃ te pe,e8=.iface te pe) (h:s.length≤24) (h2:¬ (cut 32 s).length=7) :
   Call Tryz.prog 142 [U s] (GL m (.iface 268 (.pointer (some a))) e7 e8) 4 (.tup [Packet.none.av,.c (.t (.v (.iface 268 (.pointer (some a)))))]) (GL m (.iface 268 (.pointer (some a))) e7 e8) 4:=by
 have cS:=Split_ok s 32 m hs
 have hp:∀ i,((cut 32 s).getD i []).length≤1000000:=fun i=>Nat.le_trans (cut_piece2 32 s i) (by omega)
 have hcl:=cut_len 32 s
 refine vO tok Tryz.func142 rfl rfl Tryz.ntmps142 Tryz.results142 rfl (by decide) (fun cx hnt hk0=>?_)

 repeat' (first|refine vS fun K hK=>?_|refine hK _ ?_;clear hK K|refine hX ?_;clear hX hY X Y|refine hY ?_;clear hX hY X Y|((first|refine vR tok (by rw [hnt];rfl) ?_|refine vC fun X Y hX hY=>?_|refine vK ?_|refine vT ?_|refine vF [] ?_|refine runS_c [0] (cS) rfl ?_ ?_ ?_|(refine AWp.draw (id:=5) tok mixed (.tak 1 (.all (.cons 0 (.all (.cons 2 (.tak 3 .done) .nil)) .nil))) [0,1,2,3] [2] (by kernel_rfl) (by kernel_rfl) (by rw [hnt];rfl) ?_)|(apply gC<;>intro hq<;>(try simp only [nT,nF,n1,n0] at hq)<;>(have hb:=hq)<;>(try simp only [dT,dF,eT,eF] at hb)<;>first|(exfalso;omega)|((try simp only [hq]);clear hq)))<;>(try simp only [go_sem,qa,qb,qc,qd,qe,qf,qg,qh,qi,qj,qk,ql,qm,qn,qo,qp,qq,qr,qs,reduceIte,reduceCtorEq,h2,Packet.none])))
 all_goals first|(first|omega|(unfold Big;omega)|(rw [u8m];omega)|(rw [u8M];omega)|(simp only [dA,dB,dC];omega))
theorem parse_bad0 (s:Str) (m:Int) (a:Addr) (e7 e8:Value) (hs:s.length≤1000000) (h7:∃ te pe,e7=.iface te pe) (h8:∃ te pe,e8=.iface te pe) (h:s.length≤24) (h2:(cut 32 s).length=7) (a0:¬ atoiOk ((cut 32 s).getD 0 [])=true) :
   Call Tryz.prog 142 [U s] (GL m (.iface 268 (.pointer (some a))) e7 e8) 4 (.tup [Packet.none.av,.c (.t (.v (.iface 268 (.pointer (some a)))))]) (GL m (.iface 268 (.pointer (some a))) e7 e8) 4:=by
 have cS:=Split_ok s 32 m hs
 have hp:∀ i,((cut 32 s).getD i []).length≤1000000:=fun i=>Nat.le_trans (cut_piece2 32 s i) (by omega)
 have hcl:=cut_len 32 s
 have c0:=Atoi_no _ e7 e8 (hp 0) h7 h8 a0
 refine vO tok Tryz.func142 rfl rfl Tryz.ntmps142 Tryz.results142 rfl (by decide) (fun cx hnt hk0=>?_)
 have hR:=fun (ops:List Oper) (Q:Exit→St→Prop) (s:St) (hd:dstOk cx.nt ops=true) h=>AWp.regN (P:=Tryz.prog) (c:=cx) (Q:=Q) (s:=s) (ops:=ops) (id:=11) 1 tok hd h

 repeat' (first|refine vS fun K hK=>?_|refine hK _ ?_;clear hK K|refine hY ?_;clear hX hY X Y|refine vB ?_|((first|refine vR tok (by rw [hnt];rfl) ?_|refine vC fun X Y hX hY=>?_|refine vK ?_|refine runS_c [0] (cS) rfl ?_ ?_ ?_|(apply gC<;>intro hq<;>(try simp only [nT,nF,n1,n0] at hq)<;>(have hb:=hq)<;>(try simp only [dT,dF,eT,eF] at hb)<;>first|(exfalso;omega)|((try simp only [hq]);clear hq)))<;>(try simp only [go_sem,qa,qb,qc,qd,qe,qf,qg,qh,qi,qj,qk,ql,qm,qn,qo,qp,qq,qr,qs,reduceIte,reduceCtorEq,h2,Packet.none])))
 all_goals try (first|omega|(unfold Big;omega)|(rw [u8m];omega)|(rw [u8M];omega)|(simp only [dA,dB,dC];omega))
 refine AWp.loopN 8 fun L hL=>?_
 repeat' (first|refine hR _ _ _ (dst_of hnt rfl) ?_|refine vS fun K hK=>?_|refine hK _ ?_;clear hK K|refine hX ?_;clear hX hY X Y|refine vB ?_|refine hL _ _ ?_|((first|refine vR tok (by rw [hnt];rfl) ?_|refine vC fun X Y hX hY=>?_|refine vK ?_|(refine runS_at [2,3] (c0) rfl ?_ ?_ (fun x0 y0=>?_)))<;>(try simp only [go_sem,qa,qb,qc,qd,qe,qf,qg,qh,qi,qj,qk,ql,qm,qn,qo,qp,qq,qr,qs,reduceIte,reduceCtorEq,Packet.none]))|refine aL ?_ fun hp=>?_|clear hK K|clear hL L)
 all_goals try (first|omega|(unfold Big;omega)|(rw [u8m];omega)|(rw [u8M];omega)|(simp only [dA,dB,dC];omega))
 simp only [go_sem,qa,qb,qc,qd,qe,qf,qg,qh,qi,qj,qk,ql,qm,qn,qo,qp,qq,qr,qs,reduceIte,reduceCtorEq,List.take_succ_cons,List.take_zero,List.length_cons,List.length_nil,List.drop_succ_cons,List.drop_zero]
 skip
 refine AWpI.isnil (dst_of hnt rfl) rfl rfl rfl Tryz.underlying66 rfl rfl ?_
 refine AWpI.done (by decide) ?_
 simp only [go_sem,qa,qb,qc,qd,qe,qf,qg,qh,qi,qj,qk,ql,qm,qn,qo,qp,qq,qr,qs,reduceIte,reduceCtorEq,Bool.not_true,Bool.not_false]
 repeat' (first|refine vS fun K hK=>?_|refine hK _ ?_;clear hK K|refine hX ?_;clear hX hY X Y|((first|refine vC fun X Y hX hY=>?_|refine vT ?_|refine vF [] ?_|(refine AWp.draw (id:=12) tok mixed (.tak 1 (.all (.cons 0 (.all (.cons 2 (.tak 3 .done) .nil)) .nil))) [0,1,2,3] [2] (by kernel_rfl) (by kernel_rfl) (by rw [hnt];rfl) ?_))<;>(try simp only [go_sem,qa,qb,qc,qd,qe,qf,qg,qh,qi,qj,qk,ql,qm,qn,qo,qp,qq,qr,qs,reduceIte,reduceCtorEq,Packet.none])))
 all_goals first|(first|omega|(unfold Big;omega)|(rw [u8m];omega)|(rw [u8M];omega)|(simp only [dA,dB,dC];omega))
theorem parse_bad1 (s:Str) (m:Int) (a:Addr) (e7 e8:Value) (hs:s.length≤1000000) (h7:∃ te pe,e7=.iface te pe) (h8:∃ te pe,e8=.iface te pe) (h:s.length≤24) (h2:(cut 32 s).length=7) (a0:atoiOk ((cut 32 s).getD 0 [])=true) (a1:¬ atoiOk ((cut 32 s).getD 1 [])=true) :
   Call Tryz.prog 142 [U s] (GL m (.iface 268 (.pointer (some a))) e7 e8) 4 (.tup [Packet.none.av,.c (.t (.v (.iface 268 (.pointer (some a)))))]) (GL m (.iface 268 (.pointer (some a))) e7 e8) 4:=by
 have cS:=Split_ok s 32 m hs
 have hp:∀ i,((cut 32 s).getD i []).length≤1000000:=fun i=>Nat.le_trans (cut_piece2 32 s i) (by omega)
 have hcl:=cut_len 32 s
 have c0:=Atoi_yes _ e7 e8 (hp 0) h7 h8 a0
 have c1:=Atoi_no _ e7 e8 (hp 1) h7 h8 a1
 refine vO tok Tryz.func142 rfl rfl Tryz.ntmps142 Tryz.results142 rfl (by decide) (fun cx hnt hk0=>?_)
 have hR:=fun (ops:List Oper) (Q:Exit→St→Prop) (s:St) (hd:dstOk cx.nt ops=true) h=>AWp.regN (P:=Tryz.prog) (c:=cx) (Q:=Q) (s:=s) (ops:=ops) (id:=11) 1 tok hd h

 repeat' (first|refine vS fun K hK=>?_|refine hK _ ?_;clear hK K|refine hY ?_;clear hX hY X Y|refine vB ?_|((first|refine vR tok (by rw [hnt];rfl) ?_|refine vC fun X Y hX hY=>?_|refine vK ?_|refine runS_c [0] (cS) rfl ?_ ?_ ?_|(apply gC<;>intro hq<;>(try simp only [nT,nF,n1,n0] at hq)<;>(have hb:=hq)<;>(try simp only [dT,dF,eT,eF] at hb)<;>first|(exfalso;omega)|((try simp only [hq]);clear hq)))<;>(try simp only [go_sem,qa,qb,qc,qd,qe,qf,qg,qh,qi,qj,qk,ql,qm,qn,qo,qp,qq,qr,qs,reduceIte,reduceCtorEq,h2,Packet.none])))
 all_goals try (first|omega|(unfold Big;omega)|(rw [u8m];omega)|(rw [u8M];omega)|(simp only [dA,dB,dC];omega))
 refine AWp.loopN 8 fun L hL=>?_
 repeat' (first|refine hR _ _ _ (dst_of hnt rfl) ?_|refine vS fun K hK=>?_|refine hK _ ?_;clear hK K|refine hX ?_;clear hX hY X Y|refine vB ?_|refine hL _ _ ?_|((first|refine vR tok (by rw [hnt];rfl) ?_|refine vC fun X Y hX hY=>?_|refine vK ?_|(refine runS_c [2,3] (c0) rfl ?_ ?_ ?_))<;>(try simp only [go_sem,qa,qb,qc,qd,qe,qf,qg,qh,qi,qj,qk,ql,qm,qn,qo,qp,qq,qr,qs,reduceIte,reduceCtorEq,Packet.none]))|refine aL ?_ fun hp=>?_|clear hK K|clear hL L)
 all_goals try (first|omega|(unfold Big;omega)|(rw [u8m];omega)|(rw [u8M];omega)|(simp only [dA,dB,dC];omega))
 simp only [go_sem,qa,qb,qc,qd,qe,qf,qg,qh,qi,qj,qk,ql,qm,qn,qo,qp,qq,qr,qs,reduceIte,reduceCtorEq,List.take_succ_cons,List.take_zero,List.length_cons,List.length_nil,List.drop_succ_cons,List.drop_zero]
 skip
 refine AWpI.isnil (dst_of hnt rfl) rfl rfl rfl Tryz.underlying66 rfl rfl ?_
 refine AWpI.done (by decide) ?_
 simp only [go_sem,qa,qb,qc,qd,qe,qf,qg,qh,qi,qj,qk,ql,qm,qn,qo,qp,qq,qr,qs,reduceIte,reduceCtorEq,Bool.not_true,Bool.not_false]
 repeat' (first|refine hR _ _ _ (dst_of hnt rfl) ?_|refine bL ?_|refine vS fun K hK=>?_|refine hK _ ?_;clear hK K|refine hX ?_;clear hX hY X Y|refine hY ?_;clear hX hY X Y|refine vB ?_|refine hL _ _ ?_|((first|refine vR tok (by rw [hnt];rfl) ?_|refine vC fun X Y hX hY=>?_|refine vK ?_|(refine runS_at [2,3] (c1) rfl ?_ ?_ (fun x1 y1=>?_)))<;>(try simp only [go_sem,qa,qb,qc,qd,qe,qf,qg,qh,qi,qj,qk,ql,qm,qn,qo,qp,qq,qr,qs,reduceIte,reduceCtorEq,Packet.none]))|refine Fits.of ?_ ?_|refine aL ?_ fun hp=>?_|refine And.intro ?_ ?_|clear hK K|clear hL L)
 all_goals try (first|omega|(unfold Big;omega)|(rw [u8m];omega)|(rw [u8M];omega)|(simp only [dA,dB,dC];omega))
 simp only [go_sem,qa,qb,qc,qd,qe,qf,qg,qh,qi,qj,qk,ql,qm,qn,qo,qp,qq,qr,qs,reduceIte,reduceCtorEq,List.take_succ_cons,List.take_zero,List.length_cons,List.length_nil,List.drop_succ_cons,List.drop_zero]
 skip
 refine AWpI.isnil (dst_of hnt rfl) rfl rfl rfl Tryz.underlying66 rfl rfl ?_
 refine AWpI.done (by decide) ?_
 simp only [go_sem,qa,qb,qc,qd,qe,qf,qg,qh,qi,qj,qk,ql,qm,qn,qo,qp,qq,qr,qs,reduceIte,reduceCtorEq,Bool.not_true,Bool.not_false]
 repeat' (first|refine vS fun K hK=>?_|refine hK _ ?_;clear hK K|refine hX ?_;clear hX hY X Y|((first|refine vC fun X Y hX hY=>?_|refine vT ?_|refine vF [] ?_|(refine AWp.draw (id:=12) tok mixed (.tak 1 (.all (.cons 0 (.all (.cons 2 (.tak 3 .done) .nil)) .nil))) [0,1,2,3] [2] (by kernel_rfl) (by kernel_rfl) (by rw [hnt];rfl) ?_))<;>(try simp only [go_sem,qa,qb,qc,qd,qe,qf,qg,qh,qi,qj,qk,ql,qm,qn,qo,qp,qq,qr,qs,reduceIte,reduceCtorEq,Packet.none])))
 all_goals first|(first|omega|(unfold Big;omega)|(rw [u8m];omega)|(rw [u8M];omega)|(simp only [dA,dB,dC];omega))
theorem parse_bad2 (s:Str) (m:Int) (a:Addr) (e7 e8:Value) (hs:s.length≤1000000) (h7:∃ te pe,e7=.iface te pe) (h8:∃ te pe,e8=.iface te pe) (h:s.length≤24) (h2:(cut 32 s).length=7) (a0:atoiOk ((cut 32 s).getD 0 [])=true) (a1:atoiOk ((cut 32 s).getD 1 [])=true) (a2:¬ atoiOk ((cut 32 s).getD 2 [])=true) :
   Call Tryz.prog 142 [U s] (GL m (.iface 268 (.pointer (some a))) e7 e8) 4 (.tup [Packet.none.av,.c (.t (.v (.iface 268 (.pointer (some a)))))]) (GL m (.iface 268 (.pointer (some a))) e7 e8) 4:=by
 have cS:=Split_ok s 32 m hs
 have hp:∀ i,((cut 32 s).getD i []).length≤1000000:=fun i=>Nat.le_trans (cut_piece2 32 s i) (by omega)
 have hcl:=cut_len 32 s
 have c0:=Atoi_yes _ e7 e8 (hp 0) h7 h8 a0
 have c1:=Atoi_yes _ e7 e8 (hp 1) h7 h8 a1
 have c2:=Atoi_no _ e7 e8 (hp 2) h7 h8 a2
 refine vO tok Tryz.func142 rfl rfl Tryz.ntmps142 Tryz.results142 rfl (by decide) (fun cx hnt hk0=>?_)
 have hR:=fun (ops:List Oper) (Q:Exit→St→Prop) (s:St) (hd:dstOk cx.nt ops=true) h=>AWp.regN (P:=Tryz.prog) (c:=cx) (Q:=Q) (s:=s) (ops:=ops) (id:=11) 1 tok hd h

 repeat' (first|refine vS fun K hK=>?_|refine hK _ ?_;clear hK K|refine hY ?_;clear hX hY X Y|refine vB ?_|((first|refine vR tok (by rw [hnt];rfl) ?_|refine vC fun X Y hX hY=>?_|refine vK ?_|refine runS_c [0] (cS) rfl ?_ ?_ ?_|(apply gC<;>intro hq<;>(try simp only [nT,nF,n1,n0] at hq)<;>(have hb:=hq)<;>(try simp only [dT,dF,eT,eF] at hb)<;>first|(exfalso;omega)|((try simp only [hq]);clear hq)))<;>(try simp only [go_sem,qa,qb,qc,qd,qe,qf,qg,qh,qi,qj,qk,ql,qm,qn,qo,qp,qq,qr,qs,reduceIte,reduceCtorEq,h2,Packet.none])))
 all_goals try (first|omega|(unfold Big;omega)|(rw [u8m];omega)|(rw [u8M];omega)|(simp only [dA,dB,dC];omega))
 refine AWp.loopN 8 fun L hL=>?_
 repeat' (first|refine hR _ _ _ (dst_of hnt rfl) ?_|refine vS fun K hK=>?_|refine hK _ ?_;clear hK K|refine hX ?_;clear hX hY X Y|refine vB ?_|refine hL _ _ ?_|((first|refine vR tok (by rw [hnt];rfl) ?_|refine vC fun X Y hX hY=>?_|refine vK ?_|(refine runS_c [2,3] (c0) rfl ?_ ?_ ?_))<;>(try simp only [go_sem,qa,qb,qc,qd,qe,qf,qg,qh,qi,qj,qk,ql,qm,qn,qo,qp,qq,qr,qs,reduceIte,reduceCtorEq,Packet.none]))|refine aL ?_ fun hp=>?_|clear hK K|clear hL L)
 all_goals try (first|omega|(unfold Big;omega)|(rw [u8m];omega)|(rw [u8M];omega)|(simp only [dA,dB,dC];omega))
 simp only [go_sem,qa,qb,qc,qd,qe,qf,qg,qh,qi,qj,qk,ql,qm,qn,qo,qp,qq,qr,qs,reduceIte,reduceCtorEq,List.take_succ_cons,List.take_zero,List.length_cons,List.length_nil,List.drop_succ_cons,List.drop_zero]
 skip
 refine AWpI.isnil (dst_of hnt rfl) rfl rfl rfl Tryz.underlying66 rfl rfl ?_
 refine AWpI.done (by decide) ?_
 simp only [go_sem,qa,qb,qc,qd,qe,qf,qg,qh,qi,qj,qk,ql,qm,qn,qo,qp,qq,qr,qs,reduceIte,reduceCtorEq,Bool.not_true,Bool.not_false]
 repeat' (first|refine hR _ _ _ (dst_of hnt rfl) ?_|refine bL ?_|refine vS fun K hK=>?_|refine hK _ ?_;clear hK K|refine hX ?_;clear hX hY X Y|refine hY ?_;clear hX hY X Y|refine vB ?_|refine hL _ _ ?_|((first|refine vR tok (by rw [hnt];rfl) ?_|refine vC fun X Y hX hY=>?_|refine vK ?_|(refine runS_c [2,3] (c1) rfl ?_ ?_ ?_))<;>(try simp only [go_sem,qa,qb,qc,qd,qe,qf,qg,qh,qi,qj,qk,ql,qm,qn,qo,qp,qq,qr,qs,reduceIte,reduceCtorEq,Packet.none]))|refine Fits.of ?_ ?_|refine aL ?_ fun hp=>?_|refine And.intro ?_ ?_|clear hK K|clear hL L)
 all_goals try (first|omega|(unfold Big;omega)|(rw [u8m];omega)|(rw [u8M];omega)|(simp only [dA,dB,dC];omega))
 simp only [go_sem,qa,qb,qc,qd,qe,qf,qg,qh,qi,qj,qk,ql,qm,qn,qo,qp,qq,qr,qs,reduceIte,reduceCtorEq,List.take_succ_cons,List.take_zero,List.length_cons,List.length_nil,List.drop_succ_cons,List.drop_zero]
 skip
 refine AWpI.isnil (dst_of hnt rfl) rfl rfl rfl Tryz.underlying66 rfl rfl ?_
 refine AWpI.done (by decide) ?_
 simp only [go_sem,qa,qb,qc,qd,qe,qf,qg,qh,qi,qj,qk,ql,qm,qn,qo,qp,qq,qr,qs,reduceIte,reduceCtorEq,Bool.not_true,Bool.not_false]
 repeat' (first|refine hR _ _ _ (dst_of hnt rfl) ?_|refine bL ?_|refine vS fun K hK=>?_|refine hK _ ?_;clear hK K|refine hX ?_;clear hX hY X Y|refine hY ?_;clear hX hY X Y|refine vB ?_|refine hL _ _ ?_|((first|refine vR tok (by rw [hnt];rfl) ?_|refine vC fun X Y hX hY=>?_|refine vK ?_|(refine runS_at [2,3] (c2) rfl ?_ ?_ (fun x2 y2=>?_)))<;>(try simp only [go_sem,qa,qb,qc,qd,qe,qf,qg,qh,qi,qj,qk,ql,qm,qn,qo,qp,qq,qr,qs,reduceIte,reduceCtorEq,Packet.none]))|refine Fits.of ?_ ?_|refine aL ?_ fun hp=>?_|refine And.intro ?_ ?_|clear hK K|clear hL L)
 all_goals try (first|omega|(unfold Big;omega)|(rw [u8m];omega)|(rw [u8M];omega)|(simp only [dA,dB,dC];omega))
 simp only [go_sem,qa,qb,qc,qd,qe,qf,qg,qh,qi,qj,qk,ql,qm,qn,qo,qp,qq,qr,qs,reduceIte,reduceCtorEq,List.take_succ_cons,List.take_zero,List.length_cons,List.length_nil,List.drop_succ_cons,List.drop_zero]
 skip
 refine AWpI.isnil (dst_of hnt rfl) rfl rfl rfl Tryz.underlying66 rfl rfl ?_
 refine AWpI.done (by decide) ?_
 simp only [go_sem,qa,qb,qc,qd,qe,qf,qg,qh,qi,qj,qk,ql,qm,qn,qo,qp,qq,qr,qs,reduceIte,reduceCtorEq,Bool.not_true,Bool.not_false]
 repeat' (first|refine vS fun K hK=>?_|refine hK _ ?_;clear hK K|refine hX ?_;clear hX hY X Y|((first|refine vC fun X Y hX hY=>?_|refine vT ?_|refine vF [] ?_|(refine AWp.draw (id:=12) tok mixed (.tak 1 (.all (.cons 0 (.all (.cons 2 (.tak 3 .done) .nil)) .nil))) [0,1,2,3] [2] (by kernel_rfl) (by kernel_rfl) (by rw [hnt];rfl) ?_))<;>(try simp only [go_sem,qa,qb,qc,qd,qe,qf,qg,qh,qi,qj,qk,ql,qm,qn,qo,qp,qq,qr,qs,reduceIte,reduceCtorEq,Packet.none])))
 all_goals first|(first|omega|(unfold Big;omega)|(rw [u8m];omega)|(rw [u8M];omega)|(simp only [dA,dB,dC];omega))
theorem parse_bad3 (s:Str) (m:Int) (a:Addr) (e7 e8:Value) (hs:s.length≤1000000) (h7:∃ te pe,e7=.iface te pe) (h8:∃ te pe,e8=.iface te pe) (h:s.length≤24) (h2:(cut 32 s).length=7) (a0:atoiOk ((cut 32 s).getD 0 [])=true) (a1:atoiOk ((cut 32 s).getD 1 [])=true) (a2:atoiOk ((cut 32 s).getD 2 [])=true) (a3:¬ atoiOk ((cut 32 s).getD 3 [])=true) :
   Call Tryz.prog 142 [U s] (GL m (.iface 268 (.pointer (some a))) e7 e8) 4 (.tup [Packet.none.av,.c (.t (.v (.iface 268 (.pointer (some a)))))]) (GL m (.iface 268 (.pointer (some a))) e7 e8) 4:=by
 have cS:=Split_ok s 32 m hs
 have hp:∀ i,((cut 32 s).getD i []).length≤1000000:=fun i=>Nat.le_trans (cut_piece2 32 s i) (by omega)
 have hcl:=cut_len 32 s
 have c0:=Atoi_yes _ e7 e8 (hp 0) h7 h8 a0
 have c1:=Atoi_yes _ e7 e8 (hp 1) h7 h8 a1
 have c2:=Atoi_yes _ e7 e8 (hp 2) h7 h8 a2
 have c3:=Atoi_no _ e7 e8 (hp 3) h7 h8 a3
 refine vO tok Tryz.func142 rfl rfl Tryz.ntmps142 Tryz.results142 rfl (by decide) (fun cx hnt hk0=>?_)
 have hR:=fun (ops:List Oper) (Q:Exit→St→Prop) (s:St) (hd:dstOk cx.nt ops=true) h=>AWp.regN (P:=Tryz.prog) (c:=cx) (Q:=Q) (s:=s) (ops:=ops) (id:=11) 1 tok hd h

 repeat' (first|refine vS fun K hK=>?_|refine hK _ ?_;clear hK K|refine hY ?_;clear hX hY X Y|refine vB ?_|((first|refine vR tok (by rw [hnt];rfl) ?_|refine vC fun X Y hX hY=>?_|refine vK ?_|refine runS_c [0] (cS) rfl ?_ ?_ ?_|(apply gC<;>intro hq<;>(try simp only [nT,nF,n1,n0] at hq)<;>(have hb:=hq)<;>(try simp only [dT,dF,eT,eF] at hb)<;>first|(exfalso;omega)|((try simp only [hq]);clear hq)))<;>(try simp only [go_sem,qa,qb,qc,qd,qe,qf,qg,qh,qi,qj,qk,ql,qm,qn,qo,qp,qq,qr,qs,reduceIte,reduceCtorEq,h2,Packet.none])))
 all_goals try (first|omega|(unfold Big;omega)|(rw [u8m];omega)|(rw [u8M];omega)|(simp only [dA,dB,dC];omega))
 refine AWp.loopN 8 fun L hL=>?_
 repeat' (first|refine hR _ _ _ (dst_of hnt rfl) ?_|refine vS fun K hK=>?_|refine hK _ ?_;clear hK K|refine hX ?_;clear hX hY X Y|refine vB ?_|refine hL _ _ ?_|((first|refine vR tok (by rw [hnt];rfl) ?_|refine vC fun X Y hX hY=>?_|refine vK ?_|(refine runS_c [2,3] (c0) rfl ?_ ?_ ?_))<;>(try simp only [go_sem,qa,qb,qc,qd,qe,qf,qg,qh,qi,qj,qk,ql,qm,qn,qo,qp,qq,qr,qs,reduceIte,reduceCtorEq,Packet.none]))|refine aL ?_ fun hp=>?_|clear hK K|clear hL L)
 all_goals try (first|omega|(unfold Big;omega)|(rw [u8m];omega)|(rw [u8M];omega)|(simp only [dA,dB,dC];omega))
 simp only [go_sem,qa,qb,qc,qd,qe,qf,qg,qh,qi,qj,qk,ql,qm,qn,qo,qp,qq,qr,qs,reduceIte,reduceCtorEq,List.take_succ_cons,List.take_zero,List.length_cons,List.length_nil,List.drop_succ_cons,List.drop_zero]
 skip
 refine AWpI.isnil (dst_of hnt rfl) rfl rfl rfl Tryz.underlying66 rfl rfl ?_
 refine AWpI.done (by decide) ?_
 simp only [go_sem,qa,qb,qc,qd,qe,qf,qg,qh,qi,qj,qk,ql,qm,qn,qo,qp,qq,qr,qs,reduceIte,reduceCtorEq,Bool.not_true,Bool.not_false]
 repeat' (first|refine hR _ _ _ (dst_of hnt rfl) ?_|refine bL ?_|refine vS fun K hK=>?_|refine hK _ ?_;clear hK K|refine hX ?_;clear hX hY X Y|refine hY ?_;clear hX hY X Y|refine vB ?_|refine hL _ _ ?_|((first|refine vR tok (by rw [hnt];rfl) ?_|refine vC fun X Y hX hY=>?_|refine vK ?_|(refine runS_c [2,3] (c1) rfl ?_ ?_ ?_))<;>(try simp only [go_sem,qa,qb,qc,qd,qe,qf,qg,qh,qi,qj,qk,ql,qm,qn,qo,qp,qq,qr,qs,reduceIte,reduceCtorEq,Packet.none]))|refine Fits.of ?_ ?_|refine aL ?_ fun hp=>?_|refine And.intro ?_ ?_|clear hK K|clear hL L)
 all_goals try (first|omega|(unfold Big;omega)|(rw [u8m];omega)|(rw [u8M];omega)|(simp only [dA,dB,dC];omega))
 simp only [go_sem,qa,qb,qc,qd,qe,qf,qg,qh,qi,qj,qk,ql,qm,qn,qo,qp,qq,qr,qs,reduceIte,reduceCtorEq,List.take_succ_cons,List.take_zero,List.length_cons,List.length_nil,List.drop_succ_cons,List.drop_zero]
 skip
 refine AWpI.isnil (dst_of hnt rfl) rfl rfl rfl Tryz.underlying66 rfl rfl ?_
 refine AWpI.done (by decide) ?_
 simp only [go_sem,qa,qb,qc,qd,qe,qf,qg,qh,qi,qj,qk,ql,qm,qn,qo,qp,qq,qr,qs,reduceIte,reduceCtorEq,Bool.not_true,Bool.not_false]
 repeat' (first|refine hR _ _ _ (dst_of hnt rfl) ?_|refine bL ?_|refine vS fun K hK=>?_|refine hK _ ?_;clear hK K|refine hX ?_;clear hX hY X Y|refine hY ?_;clear hX hY X Y|refine vB ?_|refine hL _ _ ?_|((first|refine vR tok (by rw [hnt];rfl) ?_|refine vC fun X Y hX hY=>?_|refine vK ?_|(refine runS_c [2,3] (c2) rfl ?_ ?_ ?_))<;>(try simp only [go_sem,qa,qb,qc,qd,qe,qf,qg,qh,qi,qj,qk,ql,qm,qn,qo,qp,qq,qr,qs,reduceIte,reduceCtorEq,Packet.none]))|refine Fits.of ?_ ?_|refine aL ?_ fun hp=>?_|refine And.intro ?_ ?_|clear hK K|clear hL L)
 all_goals try (first|omega|(unfold Big;omega)|(rw [u8m];omega)|(rw [u8M];omega)|(simp only [dA,dB,dC];omega))
 simp only [go_sem,qa,qb,qc,qd,qe,qf,qg,qh,qi,qj,qk,ql,qm,qn,qo,qp,qq,qr,qs,reduceIte,reduceCtorEq,List.take_succ_cons,List.take_zero,List.length_cons,List.length_nil,List.drop_succ_cons,List.drop_zero]
 skip
 refine AWpI.isnil (dst_of hnt rfl) rfl rfl rfl Tryz.underlying66 rfl rfl ?_
 refine AWpI.done (by decide) ?_
 simp only [go_sem,qa,qb,qc,qd,qe,qf,qg,qh,qi,qj,qk,ql,qm,qn,qo,qp,qq,qr,qs,reduceIte,reduceCtorEq,Bool.not_true,Bool.not_false]
 repeat' (first|refine hR _ _ _ (dst_of hnt rfl) ?_|refine bL ?_|refine vS fun K hK=>?_|refine hK _ ?_;clear hK K|refine hX ?_;clear hX hY X Y|refine hY ?_;clear hX hY X Y|refine vB ?_|refine hL _ _ ?_|((first|refine vR tok (by rw [hnt];rfl) ?_|refine vC fun X Y hX hY=>?_|refine vK ?_|(refine runS_at [2,3] (c3) rfl ?_ ?_ (fun x3 y3=>?_)))<;>(try simp only [go_sem,qa,qb,qc,qd,qe,qf,qg,qh,qi,qj,qk,ql,qm,qn,qo,qp,qq,qr,qs,reduceIte,reduceCtorEq,Packet.none]))|refine Fits.of ?_ ?_|refine aL ?_ fun hp=>?_|refine And.intro ?_ ?_|clear hK K|clear hL L)
 all_goals try (first|omega|(unfold Big;omega)|(rw [u8m];omega)|(rw [u8M];omega)|(simp only [dA,dB,dC];omega))
 simp only [go_sem,qa,qb,qc,qd,qe,qf,qg,qh,qi,qj,qk,ql,qm,qn,qo,qp,qq,qr,qs,reduceIte,reduceCtorEq,List.take_succ_cons,List.take_zero,List.length_cons,List.length_nil,List.drop_succ_cons,List.drop_zero]
 skip
 refine AWpI.isnil (dst_of hnt rfl) rfl rfl rfl Tryz.underlying66 rfl rfl ?_
 refine AWpI.done (by decide) ?_
 simp only [go_sem,qa,qb,qc,qd,qe,qf,qg,qh,qi,qj,qk,ql,qm,qn,qo,qp,qq,qr,qs,reduceIte,reduceCtorEq,Bool.not_true,Bool.not_false]
 repeat' (first|refine vS fun K hK=>?_|refine hK _ ?_;clear hK K|refine hX ?_;clear hX hY X Y|((first|refine vC fun X Y hX hY=>?_|refine vT ?_|refine vF [] ?_|(refine AWp.draw (id:=12) tok mixed (.tak 1 (.all (.cons 0 (.all (.cons 2 (.tak 3 .done) .nil)) .nil))) [0,1,2,3] [2] (by kernel_rfl) (by kernel_rfl) (by rw [hnt];rfl) ?_))<;>(try simp only [go_sem,qa,qb,qc,qd,qe,qf,qg,qh,qi,qj,qk,ql,qm,qn,qo,qp,qq,qr,qs,reduceIte,reduceCtorEq,Packet.none])))
 all_goals first|(first|omega|(unfold Big;omega)|(rw [u8m];omega)|(rw [u8M];omega)|(simp only [dA,dB,dC];omega))
theorem parse_bad4 (s:Str) (m:Int) (a:Addr) (e7 e8:Value) (hs:s.length≤1000000) (h7:∃ te pe,e7=.iface te pe) (h8:∃ te pe,e8=.iface te pe) (h:s.length≤24) (h2:(cut 32 s).length=7) (a0:atoiOk ((cut 32 s).getD 0 [])=true) (a1:atoiOk ((cut 32 s).getD 1 [])=true) (a2:atoiOk ((cut 32 s).getD 2 [])=true) (a3:atoiOk ((cut 32 s).getD 3 [])=true) (a4:¬ atoiOk ((cut 32 s).getD 4 [])=true) :
   Call Tryz.prog 142 [U s] (GL m (.iface 268 (.pointer (some a))) e7 e8) 4 (.tup [Packet.none.av,.c (.t (.v (.iface 268 (.pointer (some a)))))]) (GL m (.iface 268 (.pointer (some a))) e7 e8) 4:=by
 have cS:=Split_ok s 32 m hs
 have hp:∀ i,((cut 32 s).getD i []).length≤1000000:=fun i=>Nat.le_trans (cut_piece2 32 s i) (by omega)
 have hcl:=cut_len 32 s
 have c0:=Atoi_yes _ e7 e8 (hp 0) h7 h8 a0
 have c1:=Atoi_yes _ e7 e8 (hp 1) h7 h8 a1
 have c2:=Atoi_yes _ e7 e8 (hp 2) h7 h8 a2
 have c3:=Atoi_yes _ e7 e8 (hp 3) h7 h8 a3
 have c4:=Atoi_no _ e7 e8 (hp 4) h7 h8 a4
 refine vO tok Tryz.func142 rfl rfl Tryz.ntmps142 Tryz.results142 rfl (by decide) (fun cx hnt hk0=>?_)
 have hR:=fun (ops:List Oper) (Q:Exit→St→Prop) (s:St) (hd:dstOk cx.nt ops=true) h=>AWp.regN (P:=Tryz.prog) (c:=cx) (Q:=Q) (s:=s) (ops:=ops) (id:=11) 1 tok hd h

 repeat' (first|refine vS fun K hK=>?_|refine hK _ ?_;clear hK K|refine hY ?_;clear hX hY X Y|refine vB ?_|((first|refine vR tok (by rw [hnt];rfl) ?_|refine vC fun X Y hX hY=>?_|refine vK ?_|refine runS_c [0] (cS) rfl ?_ ?_ ?_|(apply gC<;>intro hq<;>(try simp only [nT,nF,n1,n0] at hq)<;>(have hb:=hq)<;>(try simp only [dT,dF,eT,eF] at hb)<;>first|(exfalso;omega)|((try simp only [hq]);clear hq)))<;>(try simp only [go_sem,qa,qb,qc,qd,qe,qf,qg,qh,qi,qj,qk,ql,qm,qn,qo,qp,qq,qr,qs,reduceIte,reduceCtorEq,h2,Packet.none])))
 all_goals try (first|omega|(unfold Big;omega)|(rw [u8m];omega)|(rw [u8M];omega)|(simp only [dA,dB,dC];omega))
 refine AWp.loopN 8 fun L hL=>?_
 repeat' (first|refine hR _ _ _ (dst_of hnt rfl) ?_|refine vS fun K hK=>?_|refine hK _ ?_;clear hK K|refine hX ?_;clear hX hY X Y|refine vB ?_|refine hL _ _ ?_|((first|refine vR tok (by rw [hnt];rfl) ?_|refine vC fun X Y hX hY=>?_|refine vK ?_|(refine runS_c [2,3] (c0) rfl ?_ ?_ ?_))<;>(try simp only [go_sem,qa,qb,qc,qd,qe,qf,qg,qh,qi,qj,qk,ql,qm,qn,qo,qp,qq,qr,qs,reduceIte,reduceCtorEq,Packet.none]))|refine aL ?_ fun hp=>?_|clear hK K|clear hL L)
 all_goals try (first|omega|(unfold Big;omega)|(rw [u8m];omega)|(rw [u8M];omega)|(simp only [dA,dB,dC];omega))
 simp only [go_sem,qa,qb,qc,qd,qe,qf,qg,qh,qi,qj,qk,ql,qm,qn,qo,qp,qq,qr,qs,reduceIte,reduceCtorEq,List.take_succ_cons,List.take_zero,List.length_cons,List.length_nil,List.drop_succ_cons,List.drop_zero]
 skip
 refine AWpI.isnil (dst_of hnt rfl) rfl rfl rfl Tryz.underlying66 rfl rfl ?_
 refine AWpI.done (by decide) ?_
 simp only [go_sem,qa,qb,qc,qd,qe,qf,qg,qh,qi,qj,qk,ql,qm,qn,qo,qp,qq,qr,qs,reduceIte,reduceCtorEq,Bool.not_true,Bool.not_false]
 repeat' (first|refine hR _ _ _ (dst_of hnt rfl) ?_|refine bL ?_|refine vS fun K hK=>?_|refine hK _ ?_;clear hK K|refine hX ?_;clear hX hY X Y|refine hY ?_;clear hX hY X Y|refine vB ?_|refine hL _ _ ?_|((first|refine vR tok (by rw [hnt];rfl) ?_|refine vC fun X Y hX hY=>?_|refine vK ?_|(refine runS_c [2,3] (c1) rfl ?_ ?_ ?_))<;>(try simp only [go_sem,qa,qb,qc,qd,qe,qf,qg,qh,qi,qj,qk,ql,qm,qn,qo,qp,qq,qr,qs,reduceIte,reduceCtorEq,Packet.none]))|refine Fits.of ?_ ?_|refine aL ?_ fun hp=>?_|refine And.intro ?_ ?_|clear hK K|clear hL L)
 all_goals try (first|omega|(unfold Big;omega)|(rw [u8m];omega)|(rw [u8M];omega)|(simp only [dA,dB,dC];omega))
 simp only [go_sem,qa,qb,qc,qd,qe,qf,qg,qh,qi,qj,qk,ql,qm,qn,qo,qp,qq,qr,qs,reduceIte,reduceCtorEq,List.take_succ_cons,List.take_zero,List.length_cons,List.length_nil,List.drop_succ_cons,List.drop_zero]
 skip
 refine AWpI.isnil (dst_of hnt rfl) rfl rfl rfl Tryz.underlying66 rfl rfl ?_
 refine AWpI.done (by decide) ?_
 simp only [go_sem,qa,qb,qc,qd,qe,qf,qg,qh,qi,qj,qk,ql,qm,qn,qo,qp,qq,qr,qs,reduceIte,reduceCtorEq,Bool.not_true,Bool.not_false]
 repeat' (first|refine hR _ _ _ (dst_of hnt rfl) ?_|refine bL ?_|refine vS fun K hK=>?_|refine hK _ ?_;clear hK K|refine hX ?_;clear hX hY X Y|refine hY ?_;clear hX hY X Y|refine vB ?_|refine hL _ _ ?_|((first|refine vR tok (by rw [hnt];rfl) ?_|refine vC fun X Y hX hY=>?_|refine vK ?_|(refine runS_c [2,3] (c2) rfl ?_ ?_ ?_))<;>(try simp only [go_sem,qa,qb,qc,qd,qe,qf,qg,qh,qi,qj,qk,ql,qm,qn,qo,qp,qq,qr,qs,reduceIte,reduceCtorEq,Packet.none]))|refine Fits.of ?_ ?_|refine aL ?_ fun hp=>?_|refine And.intro ?_ ?_|clear hK K|clear hL L)
 all_goals try (first|omega|(unfold Big;omega)|(rw [u8m];omega)|(rw [u8M];omega)|(simp only [dA,dB,dC];omega))
 simp only [go_sem,qa,qb,qc,qd,qe,qf,qg,qh,qi,qj,qk,ql,qm,qn,qo,qp,qq,qr,qs,reduceIte,reduceCtorEq,List.take_succ_cons,List.take_zero,List.length_cons,List.length_nil,List.drop_succ_cons,List.drop_zero]
 skip
 refine AWpI.isnil (dst_of hnt rfl) rfl rfl rfl Tryz.underlying66 rfl rfl ?_
 refine AWpI.done (by decide) ?_
 simp only [go_sem,qa,qb,qc,qd,qe,qf,qg,qh,qi,qj,qk,ql,qm,qn,qo,qp,qq,qr,qs,reduceIte,reduceCtorEq,Bool.not_true,Bool.not_false]
 repeat' (first|refine hR _ _ _ (dst_of hnt rfl) ?_|refine bL ?_|refine vS fun K hK=>?_|refine hK _ ?_;clear hK K|refine hX ?_;clear hX hY X Y|refine hY ?_;clear hX hY X Y|refine vB ?_|refine hL _ _ ?_|((first|refine vR tok (by rw [hnt];rfl) ?_|refine vC fun X Y hX hY=>?_|refine vK ?_|(refine runS_c [2,3] (c3) rfl ?_ ?_ ?_))<;>(try simp only [go_sem,qa,qb,qc,qd,qe,qf,qg,qh,qi,qj,qk,ql,qm,qn,qo,qp,qq,qr,qs,reduceIte,reduceCtorEq,Packet.none]))|refine Fits.of ?_ ?_|refine aL ?_ fun hp=>?_|refine And.intro ?_ ?_|clear hK K|clear hL L)
 all_goals try (first|omega|(unfold Big;omega)|(rw [u8m];omega)|(rw [u8M];omega)|(simp only [dA,dB,dC];omega))
 simp only [go_sem,qa,qb,qc,qd,qe,qf,qg,qh,qi,qj,qk,ql,qm,qn,qo,qp,qq,qr,qs,reduceIte,reduceCtorEq,List.take_succ_cons,List.take_zero,List.length_cons,List.length_nil,List.drop_succ_cons,List.drop_zero]
 skip
 refine AWpI.isnil (dst_of hnt rfl) rfl rfl rfl Tryz.underlying66 rfl rfl ?_
 refine AWpI.done (by decide) ?_
 simp only [go_sem,qa,qb,qc,qd,qe,qf,qg,qh,qi,qj,qk,ql,qm,qn,qo,qp,qq,qr,qs,reduceIte,reduceCtorEq,Bool.not_true,Bool.not_false]
 repeat' (first|refine hR _ _ _ (dst_of hnt rfl) ?_|refine bL ?_|refine vS fun K hK=>?_|refine hK _ ?_;clear hK K|refine hX ?_;clear hX hY X Y|refine hY ?_;clear hX hY X Y|refine vB ?_|refine hL _ _ ?_|((first|refine vR tok (by rw [hnt];rfl) ?_|refine vC fun X Y hX hY=>?_|refine vK ?_|(refine runS_at [2,3] (c4) rfl ?_ ?_ (fun x4 y4=>?_)))<;>(try simp only [go_sem,qa,qb,qc,qd,qe,qf,qg,qh,qi,qj,qk,ql,qm,qn,qo,qp,qq,qr,qs,reduceIte,reduceCtorEq,Packet.none]))|refine Fits.of ?_ ?_|refine aL ?_ fun hp=>?_|refine And.intro ?_ ?_|clear hK K|clear hL L)
 all_goals try (first|omega|(unfold Big;omega)|(rw [u8m];omega)|(rw [u8M];omega)|(simp only [dA,dB,dC];omega))
 simp only [go_sem,qa,qb,qc,qd,qe,qf,qg,qh,qi,qj,qk,ql,qm,qn,qo,qp,qq,qr,qs,reduceIte,reduceCtorEq,List.take_succ_cons,List.take_zero,List.length_cons,List.length_nil,List.drop_succ_cons,List.drop_zero]
 skip
 refine AWpI.isnil (dst_of hnt rfl) rfl rfl rfl Tryz.underlying66 rfl rfl ?_
 refine AWpI.done (by decide) ?_
 simp only [go_sem,qa,qb,qc,qd,qe,qf,qg,qh,qi,qj,qk,ql,qm,qn,qo,qp,qq,qr,qs,reduceIte,reduceCtorEq,Bool.not_true,Bool.not_false]
 repeat' (first|refine vS fun K hK=>?_|refine hK _ ?_;clear hK K|refine hX ?_;clear hX hY X Y|((first|refine vC fun X Y hX hY=>?_|refine vT ?_|refine vF [] ?_|(refine AWp.draw (id:=12) tok mixed (.tak 1 (.all (.cons 0 (.all (.cons 2 (.tak 3 .done) .nil)) .nil))) [0,1,2,3] [2] (by kernel_rfl) (by kernel_rfl) (by rw [hnt];rfl) ?_))<;>(try simp only [go_sem,qa,qb,qc,qd,qe,qf,qg,qh,qi,qj,qk,ql,qm,qn,qo,qp,qq,qr,qs,reduceIte,reduceCtorEq,Packet.none])))
 all_goals first|(first|omega|(unfold Big;omega)|(rw [u8m];omega)|(rw [u8M];omega)|(simp only [dA,dB,dC];omega))
theorem parse_bad5 (s:Str) (m:Int) (a:Addr) (e7 e8:Value) (hs:s.length≤1000000) (h7:∃ te pe,e7=.iface te pe) (h8:∃ te pe,e8=.iface te pe) (h:s.length≤24) (h2:(cut 32 s).length=7) (a0:atoiOk ((cut 32 s).getD 0 [])=true) (a1:atoiOk ((cut 32 s).getD 1 [])=true) (a2:atoiOk ((cut 32 s).getD 2 [])=true) (a3:atoiOk ((cut 32 s).getD 3 [])=true) (a4:atoiOk ((cut 32 s).getD 4 [])=true) (a5:¬ atoiOk ((cut 32 s).getD 5 [])=true) :
   Call Tryz.prog 142 [U s] (GL m (.iface 268 (.pointer (some a))) e7 e8) 4 (.tup [Packet.none.av,.c (.t (.v (.iface 268 (.pointer (some a)))))]) (GL m (.iface 268 (.pointer (some a))) e7 e8) 4:=by
 have cS:=Split_ok s 32 m hs
 have hp:∀ i,((cut 32 s).getD i []).length≤1000000:=fun i=>Nat.le_trans (cut_piece2 32 s i) (by omega)
 have hcl:=cut_len 32 s
 have c0:=Atoi_yes _ e7 e8 (hp 0) h7 h8 a0
 have c1:=Atoi_yes _ e7 e8 (hp 1) h7 h8 a1
 have c2:=Atoi_yes _ e7 e8 (hp 2) h7 h8 a2
 have c3:=Atoi_yes _ e7 e8 (hp 3) h7 h8 a3
 have c4:=Atoi_yes _ e7 e8 (hp 4) h7 h8 a4
 have c5:=Atoi_no _ e7 e8 (hp 5) h7 h8 a5
 refine vO tok Tryz.func142 rfl rfl Tryz.ntmps142 Tryz.results142 rfl (by decide) (fun cx hnt hk0=>?_)
 have hR:=fun (ops:List Oper) (Q:Exit→St→Prop) (s:St) (hd:dstOk cx.nt ops=true) h=>AWp.regN (P:=Tryz.prog) (c:=cx) (Q:=Q) (s:=s) (ops:=ops) (id:=11) 1 tok hd h

 repeat' (first|refine vS fun K hK=>?_|refine hK _ ?_;clear hK K|refine hY ?_;clear hX hY X Y|refine vB ?_|((first|refine vR tok (by rw [hnt];rfl) ?_|refine vC fun X Y hX hY=>?_|refine vK ?_|refine runS_c [0] (cS) rfl ?_ ?_ ?_|(apply gC<;>intro hq<;>(try simp only [nT,nF,n1,n0] at hq)<;>(have hb:=hq)<;>(try simp only [dT,dF,eT,eF] at hb)<;>first|(exfalso;omega)|((try simp only [hq]);clear hq)))<;>(try simp only [go_sem,qa,qb,qc,qd,qe,qf,qg,qh,qi,qj,qk,ql,qm,qn,qo,qp,qq,qr,qs,reduceIte,reduceCtorEq,h2,Packet.none])))
 all_goals try (first|omega|(unfold Big;omega)|(rw [u8m];omega)|(rw [u8M];omega)|(simp only [dA,dB,dC];omega))
 refine AWp.loopN 8 fun L hL=>?_
 repeat' (first|refine hR _ _ _ (dst_of hnt rfl) ?_|refine vS fun K hK=>?_|refine hK _ ?_;clear hK K|refine hX ?_;clear hX hY X Y|refine vB ?_|refine hL _ _ ?_|((first|refine vR tok (by rw [hnt];rfl) ?_|refine vC fun X Y hX hY=>?_|refine vK ?_|(refine runS_c [2,3] (c0) rfl ?_ ?_ ?_))<;>(try simp only [go_sem,qa,qb,qc,qd,qe,qf,qg,qh,qi,qj,qk,ql,qm,qn,qo,qp,qq,qr,qs,reduceIte,reduceCtorEq,Packet.none]))|refine aL ?_ fun hp=>?_|clear hK K|clear hL L)
 all_goals try (first|omega|(unfold Big;omega)|(rw [u8m];omega)|(rw [u8M];omega)|(simp only [dA,dB,dC];omega))
 simp only [go_sem,qa,qb,qc,qd,qe,qf,qg,qh,qi,qj,qk,ql,qm,qn,qo,qp,qq,qr,qs,reduceIte,reduceCtorEq,List.take_succ_cons,List.take_zero,List.length_cons,List.length_nil,List.drop_succ_cons,List.drop_zero]
 skip
 refine AWpI.isnil (dst_of hnt rfl) rfl rfl rfl Tryz.underlying66 rfl rfl ?_
 refine AWpI.done (by decide) ?_
 simp only [go_sem,qa,qb,qc,qd,qe,qf,qg,qh,qi,qj,qk,ql,qm,qn,qo,qp,qq,qr,qs,reduceIte,reduceCtorEq,Bool.not_true,Bool.not_false]
 repeat' (first|refine hR _ _ _ (dst_of hnt rfl) ?_|refine bL ?_|refine vS fun K hK=>?_|refine hK _ ?_;clear hK K|refine hX ?_;clear hX hY X Y|refine hY ?_;clear hX hY X Y|refine vB ?_|refine hL _ _ ?_|((first|refine vR tok (by rw [hnt];rfl) ?_|refine vC fun X Y hX hY=>?_|refine vK ?_|(refine runS_c [2,3] (c1) rfl ?_ ?_ ?_))<;>(try simp only [go_sem,qa,qb,qc,qd,qe,qf,qg,qh,qi,qj,qk,ql,qm,qn,qo,qp,qq,qr,qs,reduceIte,reduceCtorEq,Packet.none]))|refine Fits.of ?_ ?_|refine aL ?_ fun hp=>?_|refine And.intro ?_ ?_|clear hK K|clear hL L)
 all_goals try (first|omega|(unfold Big;omega)|(rw [u8m];omega)|(rw [u8M];omega)|(simp only [dA,dB,dC];omega))
 simp only [go_sem,qa,qb,qc,qd,qe,qf,qg,qh,qi,qj,qk,ql,qm,qn,qo,qp,qq,qr,qs,reduceIte,reduceCtorEq,List.take_succ_cons,List.take_zero,List.length_cons,List.length_nil,List.drop_succ_cons,List.drop_zero]
 skip
 refine AWpI.isnil (dst_of hnt rfl) rfl rfl rfl Tryz.underlying66 rfl rfl ?_
 refine AWpI.done (by decide) ?_
 simp only [go_sem,qa,qb,qc,qd,qe,qf,qg,qh,qi,qj,qk,ql,qm,qn,qo,qp,qq,qr,qs,reduceIte,reduceCtorEq,Bool.not_true,Bool.not_false]
 repeat' (first|refine hR _ _ _ (dst_of hnt rfl) ?_|refine bL ?_|refine vS fun K hK=>?_|refine hK _ ?_;clear hK K|refine hX ?_;clear hX hY X Y|refine hY ?_;clear hX hY X Y|refine vB ?_|refine hL _ _ ?_|((first|refine vR tok (by rw [hnt];rfl) ?_|refine vC fun X Y hX hY=>?_|refine vK ?_|(refine runS_c [2,3] (c2) rfl ?_ ?_ ?_))<;>(try simp only [go_sem,qa,qb,qc,qd,qe,qf,qg,qh,qi,qj,qk,ql,qm,qn,qo,qp,qq,qr,qs,reduceIte,reduceCtorEq,Packet.none]))|refine Fits.of ?_ ?_|refine aL ?_ fun hp=>?_|refine And.intro ?_ ?_|clear hK K|clear hL L)
 all_goals try (first|omega|(unfold Big;omega)|(rw [u8m];omega)|(rw [u8M];omega)|(simp only [dA,dB,dC];omega))
 simp only [go_sem,qa,qb,qc,qd,qe,qf,qg,qh,qi,qj,qk,ql,qm,qn,qo,qp,qq,qr,qs,reduceIte,reduceCtorEq,List.take_succ_cons,List.take_zero,List.length_cons,List.length_nil,List.drop_succ_cons,List.drop_zero]
 skip
 refine AWpI.isnil (dst_of hnt rfl) rfl rfl rfl Tryz.underlying66 rfl rfl ?_
 refine AWpI.done (by decide) ?_
 simp only [go_sem,qa,qb,qc,qd,qe,qf,qg,qh,qi,qj,qk,ql,qm,qn,qo,qp,qq,qr,qs,reduceIte,reduceCtorEq,Bool.not_true,Bool.not_false]
 repeat' (first|refine hR _ _ _ (dst_of hnt rfl) ?_|refine bL ?_|refine vS fun K hK=>?_|refine hK _ ?_;clear hK K|refine hX ?_;clear hX hY X Y|refine hY ?_;clear hX hY X Y|refine vB ?_|refine hL _ _ ?_|((first|refine vR tok (by rw [hnt];rfl) ?_|refine vC fun X Y hX hY=>?_|refine vK ?_|(refine runS_c [2,3] (c3) rfl ?_ ?_ ?_))<;>(try simp only [go_sem,qa,qb,qc,qd,qe,qf,qg,qh,qi,qj,qk,ql,qm,qn,qo,qp,qq,qr,qs,reduceIte,reduceCtorEq,Packet.none]))|refine Fits.of ?_ ?_|refine aL ?_ fun hp=>?_|refine And.intro ?_ ?_|clear hK K|clear hL L)
 all_goals try (first|omega|(unfold Big;omega)|(rw [u8m];omega)|(rw [u8M];omega)|(simp only [dA,dB,dC];omega))
 simp only [go_sem,qa,qb,qc,qd,qe,qf,qg,qh,qi,qj,qk,ql,qm,qn,qo,qp,qq,qr,qs,reduceIte,reduceCtorEq,List.take_succ_cons,List.take_zero,List.length_cons,List.length_nil,List.drop_succ_cons,List.drop_zero]
 skip
 refine AWpI.isnil (dst_of hnt rfl) rfl rfl rfl Tryz.underlying66 rfl rfl ?_
 refine AWpI.done (by decide) ?_
 simp only [go_sem,qa,qb,qc,qd,qe,qf,qg,qh,qi,qj,qk,ql,qm,qn,qo,qp,qq,qr,qs,reduceIte,reduceCtorEq,Bool.not_true,Bool.not_false]
 repeat' (first|refine hR _ _ _ (dst_of hnt rfl) ?_|refine bL ?_|refine vS fun K hK=>?_|refine hK _ ?_;clear hK K|refine hX ?_;clear hX hY X Y|refine hY ?_;clear hX hY X Y|refine vB ?_|refine hL _ _ ?_|((first|refine vR tok (by rw [hnt];rfl) ?_|refine vC fun X Y hX hY=>?_|refine vK ?_|(refine runS_c [2,3] (c4) rfl ?_ ?_ ?_))<;>(try simp only [go_sem,qa,qb,qc,qd,qe,qf,qg,qh,qi,qj,qk,ql,qm,qn,qo,qp,qq,qr,qs,reduceIte,reduceCtorEq,Packet.none]))|refine Fits.of ?_ ?_|refine aL ?_ fun hp=>?_|refine And.intro ?_ ?_|clear hK K|clear hL L)
 all_goals try (first|omega|(unfold Big;omega)|(rw [u8m];omega)|(rw [u8M];omega)|(simp only [dA,dB,dC];omega))
 simp only [go_sem,qa,qb,qc,qd,qe,qf,qg,qh,qi,qj,qk,ql,qm,qn,qo,qp,qq,qr,qs,reduceIte,reduceCtorEq,List.take_succ_cons,List.take_zero,List.length_cons,List.length_nil,List.drop_succ_cons,List.drop_zero]
 skip
 refine AWpI.isnil (dst_of hnt rfl) rfl rfl rfl Tryz.underlying66 rfl rfl ?_
 refine AWpI.done (by decide) ?_
 simp only [go_sem,qa,qb,qc,qd,qe,qf,qg,qh,qi,qj,qk,ql,qm,qn,qo,qp,qq,qr,qs,reduceIte,reduceCtorEq,Bool.not_true,Bool.not_false]
 repeat' (first|refine hR _ _ _ (dst_of hnt rfl) ?_|refine bL ?_|refine vS fun K hK=>?_|refine hK _ ?_;clear hK K|refine hX ?_;clear hX hY X Y|refine hY ?_;clear hX hY X Y|refine vB ?_|refine hL _ _ ?_|((first|refine vR tok (by rw [hnt];rfl) ?_|refine vC fun X Y hX hY=>?_|refine vK ?_|(refine runS_at [2,3] (c5) rfl ?_ ?_ (fun x5 y5=>?_)))<;>(try simp only [go_sem,qa,qb,qc,qd,qe,qf,qg,qh,qi,qj,qk,ql,qm,qn,qo,qp,qq,qr,qs,reduceIte,reduceCtorEq,Packet.none]))|refine Fits.of ?_ ?_|refine aL ?_ fun hp=>?_|refine And.intro ?_ ?_|clear hK K|clear hL L)
 all_goals try (first|omega|(unfold Big;omega)|(rw [u8m];omega)|(rw [u8M];omega)|(simp only [dA,dB,dC];omega))
 simp only [go_sem,qa,qb,qc,qd,qe,qf,qg,qh,qi,qj,qk,ql,qm,qn,qo,qp,qq,qr,qs,reduceIte,reduceCtorEq,List.take_succ_cons,List.take_zero,List.length_cons,List.length_nil,List.drop_succ_cons,List.drop_zero]
 skip
 refine AWpI.isnil (dst_of hnt rfl) rfl rfl rfl Tryz.underlying66 rfl rfl ?_
 refine AWpI.done (by decide) ?_
 simp only [go_sem,qa,qb,qc,qd,qe,qf,qg,qh,qi,qj,qk,ql,qm,qn,qo,qp,qq,qr,qs,reduceIte,reduceCtorEq,Bool.not_true,Bool.not_false]
 repeat' (first|refine vS fun K hK=>?_|refine hK _ ?_;clear hK K|refine hX ?_;clear hX hY X Y|((first|refine vC fun X Y hX hY=>?_|refine vT ?_|refine vF [] ?_|(refine AWp.draw (id:=12) tok mixed (.tak 1 (.all (.cons 0 (.all (.cons 2 (.tak 3 .done) .nil)) .nil))) [0,1,2,3] [2] (by kernel_rfl) (by kernel_rfl) (by rw [hnt];rfl) ?_))<;>(try simp only [go_sem,qa,qb,qc,qd,qe,qf,qg,qh,qi,qj,qk,ql,qm,qn,qo,qp,qq,qr,qs,reduceIte,reduceCtorEq,Packet.none])))
 all_goals first|(first|omega|(unfold Big;omega)|(rw [u8m];omega)|(rw [u8M];omega)|(simp only [dA,dB,dC];omega))
theorem parse_bad6 (s:Str) (m:Int) (a:Addr) (e7 e8:Value) (hs:s.length≤1000000) (h7:∃ te pe,e7=.iface te pe) (h8:∃ te pe,e8=.iface te pe) (h:s.length≤24) (h2:(cut 32 s).length=7) (a0:atoiOk ((cut 32 s).getD 0 [])=true) (a1:atoiOk ((cut 32 s).getD 1 [])=true) (a2:atoiOk ((cut 32 s).getD 2 [])=true) (a3:atoiOk ((cut 32 s).getD 3 [])=true) (a4:atoiOk ((cut 32 s).getD 4 [])=true) (a5:atoiOk ((cut 32 s).getD 5 [])=true) (a6:¬ atoiOk ((cut 32 s).getD 6 [])=true) :
   Call Tryz.prog 142 [U s] (GL m (.iface 268 (.pointer (some a))) e7 e8) 4 (.tup [Packet.none.av,.c (.t (.v (.iface 268 (.pointer (some a)))))]) (GL m (.iface 268 (.pointer (some a))) e7 e8) 4:=by
 have cS:=Split_ok s 32 m hs
 have hp:∀ i,((cut 32 s).getD i []).length≤1000000:=fun i=>Nat.le_trans (cut_piece2 32 s i) (by omega)
 have hcl:=cut_len 32 s
 have c0:=Atoi_yes _ e7 e8 (hp 0) h7 h8 a0
 have c1:=Atoi_yes _ e7 e8 (hp 1) h7 h8 a1
 have c2:=Atoi_yes _ e7 e8 (hp 2) h7 h8 a2
 have c3:=Atoi_yes _ e7 e8 (hp 3) h7 h8 a3
 have c4:=Atoi_yes _ e7 e8 (hp 4) h7 h8 a4
 have c5:=Atoi_yes _ e7 e8 (hp 5) h7 h8 a5
 have c6:=Atoi_no _ e7 e8 (hp 6) h7 h8 a6
 refine vO tok Tryz.func142 rfl rfl Tryz.ntmps142 Tryz.results142 rfl (by decide) (fun cx hnt hk0=>?_)
 have hR:=fun (ops:List Oper) (Q:Exit→St→Prop) (s:St) (hd:dstOk cx.nt ops=true) h=>AWp.regN (P:=Tryz.prog) (c:=cx) (Q:=Q) (s:=s) (ops:=ops) (id:=11) 1 tok hd h

 repeat' (first|refine vS fun K hK=>?_|refine hK _ ?_;clear hK K|refine hY ?_;clear hX hY X Y|refine vB ?_|((first|refine vR tok (by rw [hnt];rfl) ?_|refine vC fun X Y hX hY=>?_|refine vK ?_|refine runS_c [0] (cS) rfl ?_ ?_ ?_|(apply gC<;>intro hq<;>(try simp only [nT,nF,n1,n0] at hq)<;>(have hb:=hq)<;>(try simp only [dT,dF,eT,eF] at hb)<;>first|(exfalso;omega)|((try simp only [hq]);clear hq)))<;>(try simp only [go_sem,qa,qb,qc,qd,qe,qf,qg,qh,qi,qj,qk,ql,qm,qn,qo,qp,qq,qr,qs,reduceIte,reduceCtorEq,h2,Packet.none])))
 all_goals try (first|omega|(unfold Big;omega)|(rw [u8m];omega)|(rw [u8M];omega)|(simp only [dA,dB,dC];omega))
 refine AWp.loopN 8 fun L hL=>?_
 repeat' (first|refine hR _ _ _ (dst_of hnt rfl) ?_|refine vS fun K hK=>?_|refine hK _ ?_;clear hK K|refine hX ?_;clear hX hY X Y|refine vB ?_|refine hL _ _ ?_|((first|refine vR tok (by rw [hnt];rfl) ?_|refine vC fun X Y hX hY=>?_|refine vK ?_|(refine runS_c [2,3] (c0) rfl ?_ ?_ ?_))<;>(try simp only [go_sem,qa,qb,qc,qd,qe,qf,qg,qh,qi,qj,qk,ql,qm,qn,qo,qp,qq,qr,qs,reduceIte,reduceCtorEq,Packet.none]))|refine aL ?_ fun hp=>?_|clear hK K|clear hL L)
 all_goals try (first|omega|(unfold Big;omega)|(rw [u8m];omega)|(rw [u8M];omega)|(simp only [dA,dB,dC];omega))
 simp only [go_sem,qa,qb,qc,qd,qe,qf,qg,qh,qi,qj,qk,ql,qm,qn,qo,qp,qq,qr,qs,reduceIte,reduceCtorEq,List.take_succ_cons,List.take_zero,List.length_cons,List.length_nil,List.drop_succ_cons,List.drop_zero]
 skip
 refine AWpI.isnil (dst_of hnt rfl) rfl rfl rfl Tryz.underlying66 rfl rfl ?_
 refine AWpI.done (by decide) ?_
 simp only [go_sem,qa,qb,qc,qd,qe,qf,qg,qh,qi,qj,qk,ql,qm,qn,qo,qp,qq,qr,qs,reduceIte,reduceCtorEq,Bool.not_true,Bool.not_false]
 repeat' (first|refine hR _ _ _ (dst_of hnt rfl) ?_|refine bL ?_|refine vS fun K hK=>?_|refine hK _ ?_;clear hK K|refine hX ?_;clear hX hY X Y|refine hY ?_;clear hX hY X Y|refine vB ?_|refine hL _ _ ?_|((first|refine vR tok (by rw [hnt];rfl) ?_|refine vC fun X Y hX hY=>?_|refine vK ?_|(refine runS_c [2,3] (c1) rfl ?_ ?_ ?_))<;>(try simp only [go_sem,qa,qb,qc,qd,qe,qf,qg,qh,qi,qj,qk,ql,qm,qn,qo,qp,qq,qr,qs,reduceIte,reduceCtorEq,Packet.none]))|refine Fits.of ?_ ?_|refine aL ?_ fun hp=>?_|refine And.intro ?_ ?_|clear hK K|clear hL L)
 all_goals try (first|omega|(unfold Big;omega)|(rw [u8m];omega)|(rw [u8M];omega)|(simp only [dA,dB,dC];omega))
 simp only [go_sem,qa,qb,qc,qd,qe,qf,qg,qh,qi,qj,qk,ql,qm,qn,qo,qp,qq,qr,qs,reduceIte,reduceCtorEq,List.take_succ_cons,List.take_zero,List.length_cons,List.length_nil,List.drop_succ_cons,List.drop_zero]
 skip
 refine AWpI.isnil (dst_of hnt rfl) rfl rfl rfl Tryz.underlying66 rfl rfl ?_
 refine AWpI.done (by decide) ?_
 simp only [go_sem,qa,qb,qc,qd,qe,qf,qg,qh,qi,qj,qk,ql,qm,qn,qo,qp,qq,qr,qs,reduceIte,reduceCtorEq,Bool.not_true,Bool.not_false]
 repeat' (first|refine hR _ _ _ (dst_of hnt rfl) ?_|refine bL ?_|refine vS fun K hK=>?_|refine hK _ ?_;clear hK K|refine hX ?_;clear hX hY X Y|refine hY ?_;clear hX hY X Y|refine vB ?_|refine hL _ _ ?_|((first|refine vR tok (by rw [hnt];rfl) ?_|refine vC fun X Y hX hY=>?_|refine vK ?_|(refine runS_c [2,3] (c2) rfl ?_ ?_ ?_))<;>(try simp only [go_sem,qa,qb,qc,qd,qe,qf,qg,qh,qi,qj,qk,ql,qm,qn,qo,qp,qq,qr,qs,reduceIte,reduceCtorEq,Packet.none]))|refine Fits.of ?_ ?_|refine aL ?_ fun hp=>?_|refine And.intro ?_ ?_|clear hK K|clear hL L)
 all_goals try (first|omega|(unfold Big;omega)|(rw [u8m];omega)|(rw [u8M];omega)|(simp only [dA,dB,dC];omega))
 simp only [go_sem,qa,qb,qc,qd,qe,qf,qg,qh,qi,qj,qk,ql,qm,qn,qo,qp,qq,qr,qs,reduceIte,reduceCtorEq,List.take_succ_cons,List.take_zero,List.length_cons,List.length_nil,List.drop_succ_cons,List.drop_zero]
 skip
 refine AWpI.isnil (dst_of hnt rfl) rfl rfl rfl Tryz.underlying66 rfl rfl ?_
 refine AWpI.done (by decide) ?_
 simp only [go_sem,qa,qb,qc,qd,qe,qf,qg,qh,qi,qj,qk,ql,qm,qn,qo,qp,qq,qr,qs,reduceIte,reduceCtorEq,Bool.not_true,Bool.not_false]
 repeat' (first|refine hR _ _ _ (dst_of hnt rfl) ?_|refine bL ?_|refine vS fun K hK=>?_|refine hK _ ?_;clear hK K|refine hX ?_;clear hX hY X Y|refine hY ?_;clear hX hY X Y|refine vB ?_|refine hL _ _ ?_|((first|refine vR tok (by rw [hnt];rfl) ?_|refine vC fun X Y hX hY=>?_|refine vK ?_|(refine runS_c [2,3] (c3) rfl ?_ ?_ ?_))<;>(try simp only [go_sem,qa,qb,qc,qd,qe,qf,qg,qh,qi,qj,qk,ql,qm,qn,qo,qp,qq,qr,qs,reduceIte,reduceCtorEq,Packet.none]))|refine Fits.of ?_ ?_|refine aL ?_ fun hp=>?_|refine And.intro ?_ ?_|clear hK K|clear hL L)
 all_goals try (first|omega|(unfold Big;omega)|(rw [u8m];omega)|(rw [u8M];omega)|(simp only [dA,dB,dC];omega))
 simp only [go_sem,qa,qb,qc,qd,qe,qf,qg,qh,qi,qj,qk,ql,qm,qn,qo,qp,qq,qr,qs,reduceIte,reduceCtorEq,List.take_succ_cons,List.take_zero,List.length_cons,List.length_nil,List.drop_succ_cons,List.drop_zero]
 skip
 refine AWpI.isnil (dst_of hnt rfl) rfl rfl rfl Tryz.underlying66 rfl rfl ?_
 refine AWpI.done (by decide) ?_
 simp only [go_sem,qa,qb,qc,qd,qe,qf,qg,qh,qi,qj,qk,ql,qm,qn,qo,qp,qq,qr,qs,reduceIte,reduceCtorEq,Bool.not_true,Bool.not_false]
 repeat' (first|refine hR _ _ _ (dst_of hnt rfl) ?_|refine bL ?_|refine vS fun K hK=>?_|refine hK _ ?_;clear hK K|refine hX ?_;clear hX hY X Y|refine hY ?_;clear hX hY X Y|refine vB ?_|refine hL _ _ ?_|((first|refine vR tok (by rw [hnt];rfl) ?_|refine vC fun X Y hX hY=>?_|refine vK ?_|(refine runS_c [2,3] (c4) rfl ?_ ?_ ?_))<;>(try simp only [go_sem,qa,qb,qc,qd,qe,qf,qg,qh,qi,qj,qk,ql,qm,qn,qo,qp,qq,qr,qs,reduceIte,reduceCtorEq,Packet.none]))|refine Fits.of ?_ ?_|refine aL ?_ fun hp=>?_|refine And.intro ?_ ?_|clear hK K|clear hL L)
 all_goals try (first|omega|(unfold Big;omega)|(rw [u8m];omega)|(rw [u8M];omega)|(simp only [dA,dB,dC];omega))
 simp only [go_sem,qa,qb,qc,qd,qe,qf,qg,qh,qi,qj,qk,ql,qm,qn,qo,qp,qq,qr,qs,reduceIte,reduceCtorEq,List.take_succ_cons,List.take_zero,List.length_cons,List.length_nil,List.drop_succ_cons,List.drop_zero]
 skip
 refine AWpI.isnil (dst_of hnt rfl) rfl rfl rfl Tryz.underlying66 rfl rfl ?_
 refine AWpI.done (by decide) ?_
 simp only [go_sem,qa,qb,qc,qd,qe,qf,qg,qh,qi,qj,qk,ql,qm,qn,qo,qp,qq,qr,qs,reduceIte,reduceCtorEq,Bool.not_true,Bool.not_false]
 repeat' (first|refine hR _ _ _ (dst_of hnt rfl) ?_|refine bL ?_|refine vS fun K hK=>?_|refine hK _ ?_;clear hK K|refine hX ?_;clear hX hY X Y|refine hY ?_;clear hX hY X Y|refine vB ?_|refine hL _ _ ?_|((first|refine vR tok (by rw [hnt];rfl) ?_|refine vC fun X Y hX hY=>?_|refine vK ?_|(refine runS_c [2,3] (c5) rfl ?_ ?_ ?_))<;>(try simp only [go_sem,qa,qb,qc,qd,qe,qf,qg,qh,qi,qj,qk,ql,qm,qn,qo,qp,qq,qr,qs,reduceIte,reduceCtorEq,Packet.none]))|refine Fits.of ?_ ?_|refine aL ?_ fun hp=>?_|refine And.intro ?_ ?_|clear hK K|clear hL L)
 all_goals try (first|omega|(unfold Big;omega)|(rw [u8m];omega)|(rw [u8M];omega)|(simp only [dA,dB,dC];omega))
 simp only [go_sem,qa,qb,qc,qd,qe,qf,qg,qh,qi,qj,qk,ql,qm,qn,qo,qp,qq,qr,qs,reduceIte,reduceCtorEq,List.take_succ_cons,List.take_zero,List.length_cons,List.length_nil,List.drop_succ_cons,List.drop_zero]
 skip
 refine AWpI.isnil (dst_of hnt rfl) rfl rfl rfl Tryz.underlying66 rfl rfl ?_
 refine AWpI.done (by decide) ?_
 simp only [go_sem,qa,qb,qc,qd,qe,qf,qg,qh,qi,qj,qk,ql,qm,qn,qo,qp,qq,qr,qs,reduceIte,reduceCtorEq,Bool.not_true,Bool.not_false]
 repeat' (first|refine hR _ _ _ (dst_of hnt rfl) ?_|refine bL ?_|refine vS fun K hK=>?_|refine hK _ ?_;clear hK K|refine hX ?_;clear hX hY X Y|refine hY ?_;clear hX hY X Y|refine vB ?_|refine hL _ _ ?_|((first|refine vR tok (by rw [hnt];rfl) ?_|refine vC fun X Y hX hY=>?_|refine vK ?_|(refine runS_at [2,3] (c6) rfl ?_ ?_ (fun x6 y6=>?_)))<;>(try simp only [go_sem,qa,qb,qc,qd,qe,qf,qg,qh,qi,qj,qk,ql,qm,qn,qo,qp,qq,qr,qs,reduceIte,reduceCtorEq,Packet.none]))|refine Fits.of ?_ ?_|refine aL ?_ fun hp=>?_|refine And.intro ?_ ?_|clear hK K|clear hL L)
 all_goals try (first|omega|(unfold Big;omega)|(rw [u8m];omega)|(rw [u8M];omega)|(simp only [dA,dB,dC];omega))
 simp only [go_sem,qa,qb,qc,qd,qe,qf,qg,qh,qi,qj,qk,ql,qm,qn,qo,qp,qq,qr,qs,reduceIte,reduceCtorEq,List.take_succ_cons,List.take_zero,List.length_cons,List.length_nil,List.drop_succ_cons,List.drop_zero]
 skip
 refine AWpI.isnil (dst_of hnt rfl) rfl rfl rfl Tryz.underlying66 rfl rfl ?_
 refine AWpI.done (by decide) ?_
 simp only [go_sem,qa,qb,qc,qd,qe,qf,qg,qh,qi,qj,qk,ql,qm,qn,qo,qp,qq,qr,qs,reduceIte,reduceCtorEq,Bool.not_true,Bool.not_false]
 repeat' (first|refine vS fun K hK=>?_|refine hK _ ?_;clear hK K|refine hX ?_;clear hX hY X Y|((first|refine vC fun X Y hX hY=>?_|refine vT ?_|refine vF [] ?_|(refine AWp.draw (id:=12) tok mixed (.tak 1 (.all (.cons 0 (.all (.cons 2 (.tak 3 .done) .nil)) .nil))) [0,1,2,3] [2] (by kernel_rfl) (by kernel_rfl) (by rw [hnt];rfl) ?_))<;>(try simp only [go_sem,qa,qb,qc,qd,qe,qf,qg,qh,qi,qj,qk,ql,qm,qn,qo,qp,qq,qr,qs,reduceIte,reduceCtorEq,Packet.none])))
 all_goals first|(first|omega|(unfold Big;omega)|(rw [u8m];omega)|(rw [u8M];omega)|(simp only [dA,dB,dC];omega))
theorem parse_no (s:Str) (m:Int) (a:Addr) (e7 e8:Value) (hs:s.length≤1000000) (h7:∃ te pe,e7=.iface te pe) (h8:∃ te pe,e8=.iface te pe) (h:s.length≤24) (h2:(cut 32 s).length=7) (a0:atoiOk ((cut 32 s).getD 0 [])=true) (a1:atoiOk ((cut 32 s).getD 1 [])=true) (a2:atoiOk ((cut 32 s).getD 2 [])=true) (a3:atoiOk ((cut 32 s).getD 3 [])=true) (a4:atoiOk ((cut 32 s).getD 4 [])=true) (a5:atoiOk ((cut 32 s).getD 5 [])=true) (a6:atoiOk ((cut 32 s).getD 6 [])=true) (h3:¬ (Packet.ofWordsA (cut 32 s)).ok=true) :
   Call Tryz.prog 142 [U s] (GL m (.iface 268 (.pointer (some a))) e7 e8) 4 (.tup [Packet.none.av,.c (.t (.v (.iface 268 (.pointer (some a)))))]) (GL m (.iface 268 (.pointer (some a))) e7 e8) 4:=by
 unfold Packet.ofWordsA at h3
 have cS:=Split_ok s 32 m hs
 have hp:∀ i,((cut 32 s).getD i []).length≤1000000:=fun i=>Nat.le_trans (cut_piece2 32 s i) (by omega)
 have hcl:=cut_len 32 s
 have c0:=Atoi_yes _ e7 e8 (hp 0) h7 h8 a0
 have c1:=Atoi_yes _ e7 e8 (hp 1) h7 h8 a1
 have c2:=Atoi_yes _ e7 e8 (hp 2) h7 h8 a2
 have c3:=Atoi_yes _ e7 e8 (hp 3) h7 h8 a3
 have c4:=Atoi_yes _ e7 e8 (hp 4) h7 h8 a4
 have c5:=Atoi_yes _ e7 e8 (hp 5) h7 h8 a5
 have c6:=Atoi_yes _ e7 e8 (hp 6) h7 h8 a6
 have cP:=packetOf_ok ⟨atoiV ((cut 32 s).getD 0 []),atoiV ((cut 32 s).getD 1 []),atoiV ((cut 32 s).getD 2 []),atoiV ((cut 32 s).getD 3 []),atoiV ((cut 32 s).getD 4 []),atoiV ((cut 32 s).getD 5 []),atoiV ((cut 32 s).getD 6 [])⟩
 have cK:=iPacketOk_ok ⟨atoiV ((cut 32 s).getD 0 []),atoiV ((cut 32 s).getD 1 []),atoiV ((cut 32 s).getD 2 []),atoiV ((cut 32 s).getD 3 []),atoiV ((cut 32 s).getD 4 []),atoiV ((cut 32 s).getD 5 []),atoiV ((cut 32 s).getD 6 [])⟩
 have cT:=iPacketText_ok ⟨atoiV ((cut 32 s).getD 0 []),atoiV ((cut 32 s).getD 1 []),atoiV ((cut 32 s).getD 2 []),atoiV ((cut 32 s).getD 3 []),atoiV ((cut 32 s).getD 4 []),atoiV ((cut 32 s).getD 5 []),atoiV ((cut 32 s).getD 6 [])⟩
 refine vO tok Tryz.func142 rfl rfl Tryz.ntmps142 Tryz.results142 rfl (by decide) (fun cx hnt hk0=>?_)
 have hR:=fun (ops:List Oper) (Q:Exit→St→Prop) (s:St) (hd:dstOk cx.nt ops=true) h=>AWp.regN (P:=Tryz.prog) (c:=cx) (Q:=Q) (s:=s) (ops:=ops) (id:=11) 1 tok hd h

 repeat' (first|refine vS fun K hK=>?_|refine hK _ ?_;clear hK K|refine hY ?_;clear hX hY X Y|refine vB ?_|((first|refine vR tok (by rw [hnt];rfl) ?_|refine vC fun X Y hX hY=>?_|refine vK ?_|refine runS_c [0] (cS) rfl ?_ ?_ ?_|(apply gC<;>intro hq<;>(try simp only [nT,nF,n1,n0] at hq)<;>(have hb:=hq)<;>(try simp only [dT,dF,eT,eF] at hb)<;>first|(exfalso;omega)|((try simp only [hq]);clear hq)))<;>(try simp only [go_sem,qa,qb,qc,qd,qe,qf,qg,qh,qi,qj,qk,ql,qm,qn,qo,qp,qq,qr,qs,reduceIte,reduceCtorEq,h2,Packet.none])))
 all_goals try (first|omega|(unfold Big;omega)|(rw [u8m];omega)|(rw [u8M];omega)|(simp only [dA,dB,dC];omega))
 refine AWp.loopN 8 fun L hL=>?_
 repeat' (first|refine hR _ _ _ (dst_of hnt rfl) ?_|refine vS fun K hK=>?_|refine hK _ ?_;clear hK K|refine hX ?_;clear hX hY X Y|refine vB ?_|refine hL _ _ ?_|((first|refine vR tok (by rw [hnt];rfl) ?_|refine vC fun X Y hX hY=>?_|refine vK ?_|(refine runS_c [2,3] (c0) rfl ?_ ?_ ?_))<;>(try simp only [go_sem,qa,qb,qc,qd,qe,qf,qg,qh,qi,qj,qk,ql,qm,qn,qo,qp,qq,qr,qs,reduceIte,reduceCtorEq,Packet.none]))|refine aL ?_ fun hp=>?_|clear hK K|clear hL L)
 all_goals try (first|omega|(unfold Big;omega)|(rw [u8m];omega)|(rw [u8M];omega)|(simp only [dA,dB,dC];omega))
 simp only [go_sem,qa,qb,qc,qd,qe,qf,qg,qh,qi,qj,qk,ql,qm,qn,qo,qp,qq,qr,qs,reduceIte,reduceCtorEq,List.take_succ_cons,List.take_zero,List.length_cons,List.length_nil,List.drop_succ_cons,List.drop_zero]
 skip
 refine AWpI.isnil (dst_of hnt rfl) rfl rfl rfl Tryz.underlying66 rfl rfl ?_
 refine AWpI.done (by decide) ?_
 simp only [go_sem,qa,qb,qc,qd,qe,qf,qg,qh,qi,qj,qk,ql,qm,qn,qo,qp,qq,qr,qs,reduceIte,reduceCtorEq,Bool.not_true,Bool.not_false]
 repeat' (first|refine hR _ _ _ (dst_of hnt rfl) ?_|refine bL ?_|refine vS fun K hK=>?_|refine hK _ ?_;clear hK K|refine hX ?_;clear hX hY X Y|refine hY ?_;clear hX hY X Y|refine vB ?_|refine hL _ _ ?_|((first|refine vR tok (by rw [hnt];rfl) ?_|refine vC fun X Y hX hY=>?_|refine vK ?_|(refine runS_c [2,3] (c1) rfl ?_ ?_ ?_))<;>(try simp only [go_sem,qa,qb,qc,qd,qe,qf,qg,qh,qi,qj,qk,ql,qm,qn,qo,qp,qq,qr,qs,reduceIte,reduceCtorEq,Packet.none]))|refine Fits.of ?_ ?_|refine aL ?_ fun hp=>?_|refine And.intro ?_ ?_|clear hK K|clear hL L)
 all_goals try (first|omega|(unfold Big;omega)|(rw [u8m];omega)|(rw [u8M];omega)|(simp only [dA,dB,dC];omega))
 simp only [go_sem,qa,qb,qc,qd,qe,qf,qg,qh,qi,qj,qk,ql,qm,qn,qo,qp,qq,qr,qs,reduceIte,reduceCtorEq,List.take_succ_cons,List.take_zero,List.length_cons,List.length_nil,List.drop_succ_cons,List.drop_zero]
 skip
 refine AWpI.isnil (dst_of hnt rfl) rfl rfl rfl Tryz.underlying66 rfl rfl ?_
 refine AWpI.done (by decide) ?_
 simp only [go_sem,qa,qb,qc,qd,qe,qf,qg,qh,qi,qj,qk,ql,qm,qn,qo,qp,qq,qr,qs,reduceIte,reduceCtorEq,Bool.not_true,Bool.not_false]
 repeat' (first|refine hR _ _ _ (dst_of hnt rfl) ?_|refine bL ?_|refine vS fun K hK=>?_|refine hK _ ?_;clear hK K|refine hX ?_;clear hX hY X Y|refine hY ?_;clear hX hY X Y|refine vB ?_|refine hL _ _ ?_|((first|refine vR tok (by rw [hnt];rfl) ?_|refine vC fun X Y hX hY=>?_|refine vK ?_|(refine runS_c [2,3] (c2) rfl ?_ ?_ ?_))<;>(try simp only [go_sem,qa,qb,qc,qd,qe,qf,qg,qh,qi,qj,qk,ql,qm,qn,qo,qp,qq,qr,qs,reduceIte,reduceCtorEq,Packet.none]))|refine Fits.of ?_ ?_|refine aL ?_ fun hp=>?_|refine And.intro ?_ ?_|clear hK K|clear hL L)
 all_goals try (first|omega|(unfold Big;omega)|(rw [u8m];omega)|(rw [u8M];omega)|(simp only [dA,dB,dC];omega))
 simp only [go_sem,qa,qb,qc,qd,qe,qf,qg,qh,qi,qj,qk,ql,qm,qn,qo,qp,qq,qr,qs,reduceIte,reduceCtorEq,List.take_succ_cons,List.take_zero,List.length_cons,List.length_nil,List.drop_succ_cons,List.drop_zero]
 skip
 refine AWpI.isnil (dst_of hnt rfl) rfl rfl rfl Tryz.underlying66 rfl rfl ?_
 refine AWpI.done (by decide) ?_
 simp only [go_sem,qa,qb,qc,qd,qe,qf,qg,qh,qi,qj,qk,ql,qm,qn,qo,qp,qq,qr,qs,reduceIte,reduceCtorEq,Bool.not_true,Bool.not_false]
 repeat' (first|refine hR _ _ _ (dst_of hnt rfl) ?_|refine bL ?_|refine vS fun K hK=>?_|refine hK _ ?_;clear hK K|refine hX ?_;clear hX hY X Y|refine hY ?_;clear hX hY X Y|refine vB ?_|refine hL _ _ ?_|((first|refine vR tok (by rw [hnt];rfl) ?_|refine vC fun X Y hX hY=>?_|refine vK ?_|(refine runS_c [2,3] (c3) rfl ?_ ?_ ?_))<;>(try simp only [go_sem,qa,qb,qc,qd,qe,qf,qg,qh,qi,qj,qk,ql,qm,qn,qo,qp,qq,qr,qs,reduceIte,reduceCtorEq,Packet.none]))|refine Fits.of ?_ ?_|refine aL ?_ fun hp=>?_|refine And.intro ?_ ?_|clear hK K|clear hL L)
 all_goals try (first|omega|(unfold Big;omega)|(rw [u8m];omega)|(rw [u8M];omega)|(simp only [dA,dB,dC];omega))
 simp only [go_sem,qa,qb,qc,qd,qe,qf,qg,qh,qi,qj,qk,ql,qm,qn,qo,qp,qq,qr,qs,reduceIte,reduceCtorEq,List.take_succ_cons,List.take_zero,List.length_cons,List.length_nil,List.drop_succ_cons,List.drop_zero]
 skip
 refine AWpI.isnil (dst_of hnt rfl) rfl rfl rfl Tryz.underlying66 rfl rfl ?_
 refine AWpI.done (by decide) ?_
 simp only [go_sem,qa,qb,qc,qd,qe,qf,qg,qh,qi,qj,qk,ql,qm,qn,qo,qp,qq,qr,qs,reduceIte,reduceCtorEq,Bool.not_true,Bool.not_false]
 repeat' (first|refine hR _ _ _ (dst_of hnt rfl) ?_|refine bL ?_|refine vS fun K hK=>?_|refine hK _ ?_;clear hK K|refine hX ?_;clear hX hY X Y|refine hY ?_;clear hX hY X Y|refine vB ?_|refine hL _ _ ?_|((first|refine vR tok (by rw [hnt];rfl) ?_|refine vC fun X Y hX hY=>?_|refine vK ?_|(refine runS_c [2,3] (c4) rfl ?_ ?_ ?_))<;>(try simp only [go_sem,qa,qb,qc,qd,qe,qf,qg,qh,qi,qj,qk,ql,qm,qn,qo,qp,qq,qr,qs,reduceIte,reduceCtorEq,Packet.none]))|refine Fits.of ?_ ?_|refine aL ?_ fun hp=>?_|refine And.intro ?_ ?_|clear hK K|clear hL L)
 all_goals try (first|omega|(unfold Big;omega)|(rw [u8m];omega)|(rw [u8M];omega)|(simp only [dA,dB,dC];omega))
 simp only [go_sem,qa,qb,qc,qd,qe,qf,qg,qh,qi,qj,qk,ql,qm,qn,qo,qp,qq,qr,qs,reduceIte,reduceCtorEq,List.take_succ_cons,List.take_zero,List.length_cons,List.length_nil,List.drop_succ_cons,List.drop_zero]
 skip
 refine AWpI.isnil (dst_of hnt rfl) rfl rfl rfl Tryz.underlying66 rfl rfl ?_
 refine AWpI.done (by decide) ?_
 simp only [go_sem,qa,qb,qc,qd,qe,qf,qg,qh,qi,qj,qk,ql,qm,qn,qo,qp,qq,qr,qs,reduceIte,reduceCtorEq,Bool.not_true,Bool.not_false]
 repeat' (first|refine hR _ _ _ (dst_of hnt rfl) ?_|refine bL ?_|refine vS fun K hK=>?_|refine hK _ ?_;clear hK K|refine hX ?_;clear hX hY X Y|refine hY ?_;clear hX hY X Y|refine vB ?_|refine hL _ _ ?_|((first|refine vR tok (by rw [hnt];rfl) ?_|refine vC fun X Y hX hY=>?_|refine vK ?_|(refine runS_c [2,3] (c5) rfl ?_ ?_ ?_))<;>(try simp only [go_sem,qa,qb,qc,qd,qe,qf,qg,qh,qi,qj,qk,ql,qm,qn,qo,qp,qq,qr,qs,reduceIte,reduceCtorEq,Packet.none]))|refine Fits.of ?_ ?_|refine aL ?_ fun hp=>?_|refine And.intro ?_ ?_|clear hK K|clear hL L)
 all_goals try (first|omega|(unfold Big;omega)|(rw [u8m];omega)|(rw [u8M];omega)|(simp only [dA,dB,dC];omega))
 simp only [go_sem,qa,qb,qc,qd,qe,qf,qg,qh,qi,qj,qk,ql,qm,qn,qo,qp,qq,qr,qs,reduceIte,reduceCtorEq,List.take_succ_cons,List.take_zero,List.length_cons,List.length_nil,List.drop_succ_cons,List.drop_zero]
 skip
 refine AWpI.isnil (dst_of hnt rfl) rfl rfl rfl Tryz.underlying66 rfl rfl ?_
 refine AWpI.done (by decide) ?_
 simp only [go_sem,qa,qb,qc,qd,qe,qf,qg,qh,qi,qj,qk,ql,qm,qn,qo,qp,qq,qr,qs,reduceIte,reduceCtorEq,Bool.not_true,Bool.not_false]
 repeat' (first|refine hR _ _ _ (dst_of hnt rfl) ?_|refine bL ?_|refine vS fun K hK=>?_|refine hK _ ?_;clear hK K|refine hX ?_;clear hX hY X Y|refine hY ?_;clear hX hY X Y|refine vB ?_|refine hL _ _ ?_|((first|refine vR tok (by rw [hnt];rfl) ?_|refine vC fun X Y hX hY=>?_|refine vK ?_|(refine runS_c [2,3] (c6) rfl ?_ ?_ ?_))<;>(try simp only [go_sem,qa,qb,qc,qd,qe,qf,qg,qh,qi,qj,qk,ql,qm,qn,qo,qp,qq,qr,qs,reduceIte,reduceCtorEq,Packet.none]))|refine Fits.of ?_ ?_|refine aL ?_ fun hp=>?_|refine And.intro ?_ ?_|clear hK K|clear hL L)
 all_goals try (first|omega|(unfold Big;omega)|(rw [u8m];omega)|(rw [u8M];omega)|(simp only [dA,dB,dC];omega))
 simp only [go_sem,qa,qb,qc,qd,qe,qf,qg,qh,qi,qj,qk,ql,qm,qn,qo,qp,qq,qr,qs,reduceIte,reduceCtorEq,List.take_succ_cons,List.take_zero,List.length_cons,List.length_nil,List.drop_succ_cons,List.drop_zero]
 skip
 refine AWpI.isnil (dst_of hnt rfl) rfl rfl rfl Tryz.underlying66 rfl rfl ?_
 refine AWpI.done (by decide) ?_
 simp only [go_sem,qa,qb,qc,qd,qe,qf,qg,qh,qi,qj,qk,ql,qm,qn,qo,qp,qq,qr,qs,reduceIte,reduceCtorEq,Bool.not_true,Bool.not_false]
 repeat' (first|refine bL ?_|refine vS fun K hK=>?_|refine hK _ ?_;clear hK K|refine hX ?_;clear hX hY X Y|refine hY ?_;clear hX hY X Y|refine hL _ _ ?_|((first|refine vR tok (by rw [hnt];rfl) ?_|refine vC fun X Y hX hY=>?_|refine vK ?_|refine vE ?_|refine vT ?_|refine vF [] ?_|refine runS_c [] (cP) rfl ?_ ?_ ?_|refine runS_c [] (cK) rfl ?_ ?_ ?_|(refine AWp.draw (id:=17) tok mixed (.tak 1 (.all (.cons 0 (.all (.cons 2 (.tak 3 .done) .nil)) .nil))) [0,1,2,3] [2] (by kernel_rfl) (by kernel_rfl) (by rw [hnt];rfl) ?_))<;>(try simp only [go_sem,qa,qb,qc,qd,qe,qf,qg,qh,qi,qj,qk,ql,qm,qn,qo,qp,qq,qr,qs,reduceIte,reduceCtorEq,h3,Packet.none]))|refine Fits.of ?_ ?_|refine aL ?_ fun hp=>?_|refine And.intro ?_ ?_|clear hK K|clear hL L)
 all_goals first|(first|omega|(unfold Big;omega)|(rw [u8m];omega)|(rw [u8M];omega)|(simp only [dA,dB,dC];omega))
theorem parse_diff (s:Str) (m:Int) (a:Addr) (e7 e8:Value) (hs:s.length≤1000000) (h7:∃ te pe,e7=.iface te pe) (h8:∃ te pe,e8=.iface te pe) (h:s.length≤24) (h2:(cut 32 s).length=7) (a0:atoiOk ((cut 32 s).getD 0 [])=true) (a1:atoiOk ((cut 32 s).getD 1 [])=true) (a2:atoiOk ((cut 32 s).getD 2 [])=true) (a3:atoiOk ((cut 32 s).getD 3 [])=true) (a4:atoiOk ((cut 32 s).getD 4 [])=true) (a5:atoiOk ((cut 32 s).getD 5 [])=true) (a6:atoiOk ((cut 32 s).getD 6 [])=true) (h3:(Packet.ofWordsA (cut 32 s)).ok=true) (h4:¬ (Packet.ofWordsA (cut 32 s)).text=s) :
   Call Tryz.prog 142 [U s] (GL m (.iface 268 (.pointer (some a))) e7 e8) 4 (.tup [Packet.none.av,.c (.t (.v (.iface 268 (.pointer (some a)))))]) (GL m (.iface 268 (.pointer (some a))) e7 e8) 4:=by
 have h5:(Packet.ofWordsA (cut 32 s)).textV=(Packet.ofWordsA (cut 32 s)).text:=by unfold Packet.textV;rw [if_pos h3]
 rw [← h5] at h4;clear h5
 unfold Packet.ofWordsA at h3 h4
 have cS:=Split_ok s 32 m hs
 have hp:∀ i,((cut 32 s).getD i []).length≤1000000:=fun i=>Nat.le_trans (cut_piece2 32 s i) (by omega)
 have hcl:=cut_len 32 s
 have c0:=Atoi_yes _ e7 e8 (hp 0) h7 h8 a0
 have c1:=Atoi_yes _ e7 e8 (hp 1) h7 h8 a1
 have c2:=Atoi_yes _ e7 e8 (hp 2) h7 h8 a2
 have c3:=Atoi_yes _ e7 e8 (hp 3) h7 h8 a3
 have c4:=Atoi_yes _ e7 e8 (hp 4) h7 h8 a4
 have c5:=Atoi_yes _ e7 e8 (hp 5) h7 h8 a5
 have c6:=Atoi_yes _ e7 e8 (hp 6) h7 h8 a6
 have cP:=packetOf_ok ⟨atoiV ((cut 32 s).getD 0 []),atoiV ((cut 32 s).getD 1 []),atoiV ((cut 32 s).getD 2 []),atoiV ((cut 32 s).getD 3 []),atoiV ((cut 32 s).getD 4 []),atoiV ((cut 32 s).getD 5 []),atoiV ((cut 32 s).getD 6 [])⟩
 have cK:=iPacketOk_ok ⟨atoiV ((cut 32 s).getD 0 []),atoiV ((cut 32 s).getD 1 []),atoiV ((cut 32 s).getD 2 []),atoiV ((cut 32 s).getD 3 []),atoiV ((cut 32 s).getD 4 []),atoiV ((cut 32 s).getD 5 []),atoiV ((cut 32 s).getD 6 [])⟩
 have cT:=iPacketText_ok ⟨atoiV ((cut 32 s).getD 0 []),atoiV ((cut 32 s).getD 1 []),atoiV ((cut 32 s).getD 2 []),atoiV ((cut 32 s).getD 3 []),atoiV ((cut 32 s).getD 4 []),atoiV ((cut 32 s).getD 5 []),atoiV ((cut 32 s).getD 6 [])⟩
 refine vO tok Tryz.func142 rfl rfl Tryz.ntmps142 Tryz.results142 rfl (by decide) (fun cx hnt hk0=>?_)
 have hR:=fun (ops:List Oper) (Q:Exit→St→Prop) (s:St) (hd:dstOk cx.nt ops=true) h=>AWp.regN (P:=Tryz.prog) (c:=cx) (Q:=Q) (s:=s) (ops:=ops) (id:=11) 1 tok hd h

 repeat' (first|refine vS fun K hK=>?_|refine hK _ ?_;clear hK K|refine hY ?_;clear hX hY X Y|refine vB ?_|((first|refine vR tok (by rw [hnt];rfl) ?_|refine vC fun X Y hX hY=>?_|refine vK ?_|refine runS_c [0] (cS) rfl ?_ ?_ ?_|(apply gC<;>intro hq<;>(try simp only [nT,nF,n1,n0] at hq)<;>(have hb:=hq)<;>(try simp only [dT,dF,eT,eF] at hb)<;>first|(exfalso;omega)|((try simp only [hq]);clear hq)))<;>(try simp only [go_sem,qa,qb,qc,qd,qe,qf,qg,qh,qi,qj,qk,ql,qm,qn,qo,qp,qq,qr,qs,reduceIte,reduceCtorEq,h2,Packet.none])))
 all_goals try (first|omega|(unfold Big;omega)|(rw [u8m];omega)|(rw [u8M];omega)|(simp only [dA,dB,dC];omega))
 refine AWp.loopN 8 fun L hL=>?_
 repeat' (first|refine hR _ _ _ (dst_of hnt rfl) ?_|refine vS fun K hK=>?_|refine hK _ ?_;clear hK K|refine hX ?_;clear hX hY X Y|refine vB ?_|refine hL _ _ ?_|((first|refine vR tok (by rw [hnt];rfl) ?_|refine vC fun X Y hX hY=>?_|refine vK ?_|(refine runS_c [2,3] (c0) rfl ?_ ?_ ?_))<;>(try simp only [go_sem,qa,qb,qc,qd,qe,qf,qg,qh,qi,qj,qk,ql,qm,qn,qo,qp,qq,qr,qs,reduceIte,reduceCtorEq,Packet.none]))|refine aL ?_ fun hp=>?_|clear hK K|clear hL L)
 all_goals try (first|omega|(unfold Big;omega)|(rw [u8m];omega)|(rw [u8M];omega)|(simp only [dA,dB,dC];omega))
 simp only [go_sem,qa,qb,qc,qd,qe,qf,qg,qh,qi,qj,qk,ql,qm,qn,qo,qp,qq,qr,qs,reduceIte,reduceCtorEq,List.take_succ_cons,List.take_zero,List.length_cons,List.length_nil,List.drop_succ_cons,List.drop_zero]
 skip
 refine AWpI.isnil (dst_of hnt rfl) rfl rfl rfl Tryz.underlying66 rfl rfl ?_
 refine AWpI.done (by decide) ?_
 simp only [go_sem,qa,qb,qc,qd,qe,qf,qg,qh,qi,qj,qk,ql,qm,qn,qo,qp,qq,qr,qs,reduceIte,reduceCtorEq,Bool.not_true,Bool.not_false]
 repeat' (first|refine hR _ _ _ (dst_of hnt rfl) ?_|refine bL ?_|refine vS fun K hK=>?_|refine hK _ ?_;clear hK K|refine hX ?_;clear hX hY X Y|refine hY ?_;clear hX hY X Y|refine vB ?_|refine hL _ _ ?_|((first|refine vR tok (by rw [hnt];rfl) ?_|refine vC fun X Y hX hY=>?_|refine vK ?_|(refine runS_c [2,3] (c1) rfl ?_ ?_ ?_))<;>(try simp only [go_sem,qa,qb,qc,qd,qe,qf,qg,qh,qi,qj,qk,ql,qm,qn,qo,qp,qq,qr,qs,reduceIte,reduceCtorEq,Packet.none]))|refine Fits.of ?_ ?_|refine aL ?_ fun hp=>?_|refine And.intro ?_ ?_|clear hK K|clear hL L)
 all_goals try (first|omega|(unfold Big;omega)|(rw [u8m];omega)|(rw [u8M];omega)|(simp only [dA,dB,dC];omega))
 simp only [go_sem,qa,qb,qc,qd,qe,qf,qg,qh,qi,qj,qk,ql,qm,qn,qo,qp,qq,qr,qs,reduceIte,reduceCtorEq,List.take_succ_cons,List.take_zero,List.length_cons,List.length_nil,List.drop_succ_cons,List.drop_zero]
 skip
 refine AWpI.isnil (dst_of hnt rfl) rfl rfl rfl Tryz.underlying66 rfl rfl ?_
 refine AWpI.done (by decide) ?_
 simp only [go_sem,qa,qb,qc,qd,qe,qf,qg,qh,qi,qj,qk,ql,qm,qn,qo,qp,qq,qr,qs,reduceIte,reduceCtorEq,Bool.not_true,Bool.not_false]
 repeat' (first|refine hR _ _ _ (dst_of hnt rfl) ?_|refine bL ?_|refine vS fun K hK=>?_|refine hK _ ?_;clear hK K|refine hX ?_;clear hX hY X Y|refine hY ?_;clear hX hY X Y|refine vB ?_|refine hL _ _ ?_|((first|refine vR tok (by rw [hnt];rfl) ?_|refine vC fun X Y hX hY=>?_|refine vK ?_|(refine runS_c [2,3] (c2) rfl ?_ ?_ ?_))<;>(try simp only [go_sem,qa,qb,qc,qd,qe,qf,qg,qh,qi,qj,qk,ql,qm,qn,qo,qp,qq,qr,qs,reduceIte,reduceCtorEq,Packet.none]))|refine Fits.of ?_ ?_|refine aL ?_ fun hp=>?_|refine And.intro ?_ ?_|clear hK K|clear hL L)
 all_goals try (first|omega|(unfold Big;omega)|(rw [u8m];omega)|(rw [u8M];omega)|(simp only [dA,dB,dC];omega))
 simp only [go_sem,qa,qb,qc,qd,qe,qf,qg,qh,qi,qj,qk,ql,qm,qn,qo,qp,qq,qr,qs,reduceIte,reduceCtorEq,List.take_succ_cons,List.take_zero,List.length_cons,List.length_nil,List.drop_succ_cons,List.drop_zero]
 skip
 refine AWpI.isnil (dst_of hnt rfl) rfl rfl rfl Tryz.underlying66 rfl rfl ?_
 refine AWpI.done (by decide) ?_
 simp only [go_sem,qa,qb,qc,qd,qe,qf,qg,qh,qi,qj,qk,ql,qm,qn,qo,qp,qq,qr,qs,reduceIte,reduceCtorEq,Bool.not_true,Bool.not_false]
 repeat' (first|refine hR _ _ _ (dst_of hnt rfl) ?_|refine bL ?_|refine vS fun K hK=>?_|refine hK _ ?_;clear hK K|refine hX ?_;clear hX hY X Y|refine hY ?_;clear hX hY X Y|refine vB ?_|refine hL _ _ ?_|((first|refine vR tok (by rw [hnt];rfl) ?_|refine vC fun X Y hX hY=>?_|refine vK ?_|(refine runS_c [2,3] (c3) rfl ?_ ?_ ?_))<;>(try simp only [go_sem,qa,qb,qc,qd,qe,qf,qg,qh,qi,qj,qk,ql,qm,qn,qo,qp,qq,qr,qs,reduceIte,reduceCtorEq,Packet.none]))|refine Fits.of ?_ ?_|refine aL ?_ fun hp=>?_|refine And.intro ?_ ?_|clear hK K|clear hL L)
 all_goals try (first|omega|(unfold Big;omega)|(rw [u8m];omega)|(rw [u8M];omega)|(simp only [dA,dB,dC];omega))
 simp only [go_sem,qa,qb,qc,qd,qe,qf,qg,qh,qi,qj,qk,ql,qm,qn,qo,qp,qq,qr,qs,reduceIte,reduceCtorEq,List.take_succ_cons,List.take_zero,List.length_cons,List.length_nil,List.drop_succ_cons,List.drop_zero]
 skip
 refine AWpI.isnil (dst_of hnt rfl) rfl rfl rfl Tryz.underlying66 rfl rfl ?_
 refine AWpI.done (by decide) ?_
 simp only [go_sem,qa,qb,qc,qd,qe,qf,qg,qh,qi,qj,qk,ql,qm,qn,qo,qp,qq,qr,qs,reduceIte,reduceCtorEq,Bool.not_true,Bool.not_false]
 repeat' (first|refine hR _ _ _ (dst_of hnt rfl) ?_|refine bL ?_|refine vS fun K hK=>?_|refine hK _ ?_;clear hK K|refine hX ?_;clear hX hY X Y|refine hY ?_;clear hX hY X Y|refine vB ?_|refine hL _ _ ?_|((first|refine vR tok (by rw [hnt];rfl) ?_|refine vC fun X Y hX hY=>?_|refine vK ?_|(refine runS_c [2,3] (c4) rfl ?_ ?_ ?_))<;>(try simp only [go_sem,qa,qb,qc,qd,qe,qf,qg,qh,qi,qj,qk,ql,qm,qn,qo,qp,qq,qr,qs,reduceIte,reduceCtorEq,Packet.none]))|refine Fits.of ?_ ?_|refine aL ?_ fun hp=>?_|refine And.intro ?_ ?_|clear hK K|clear hL L)
 all_goals try (first|omega|(unfold Big;omega)|(rw [u8m];omega)|(rw [u8M];omega)|(simp only [dA,dB,dC];omega))
 simp only [go_sem,qa,qb,qc,qd,qe,qf,qg,qh,qi,qj,qk,ql,qm,qn,qo,qp,qq,qr,qs,reduceIte,reduceCtorEq,List.take_succ_cons,List.take_zero,List.length_cons,List.length_nil,List.drop_succ_cons,List.drop_zero]
 skip
 refine AWpI.isnil (dst_of hnt rfl) rfl rfl rfl Tryz.underlying66 rfl rfl ?_
 refine AWpI.done (by decide) ?_
 simp only [go_sem,qa,qb,qc,qd,qe,qf,qg,qh,qi,qj,qk,ql,qm,qn,qo,qp,qq,qr,qs,reduceIte,reduceCtorEq,Bool.not_true,Bool.not_false]
 repeat' (first|refine hR _ _ _ (dst_of hnt rfl) ?_|refine bL ?_|refine vS fun K hK=>?_|refine hK _ ?_;clear hK K|refine hX ?_;clear hX hY X Y|refine hY ?_;clear hX hY X Y|refine vB ?_|refine hL _ _ ?_|((first|refine vR tok (by rw [hnt];rfl) ?_|refine vC fun X Y hX hY=>?_|refine vK ?_|(refine runS_c [2,3] (c5) rfl ?_ ?_ ?_))<;>(try simp only [go_sem,qa,qb,qc,qd,qe,qf,qg,qh,qi,qj,qk,ql,qm,qn,qo,qp,qq,qr,qs,reduceIte,reduceCtorEq,Packet.none]))|refine Fits.of ?_ ?_|refine aL ?_ fun hp=>?_|refine And.intro ?_ ?_|clear hK K|clear hL L)
 all_goals try (first|omega|(unfold Big;omega)|(rw [u8m];omega)|(rw [u8M];omega)|(simp only [dA,dB,dC];omega))
 simp only [go_sem,qa,qb,qc,qd,qe,qf,qg,qh,qi,qj,qk,ql,qm,qn,qo,qp,qq,qr,qs,reduceIte,reduceCtorEq,List.take_succ_cons,List.take_zero,List.length_cons,List.length_nil,List.drop_succ_cons,List.drop_zero]
 skip
 refine AWpI.isnil (dst_of hnt rfl) rfl rfl rfl Tryz.underlying66 rfl rfl ?_
 refine AWpI.done (by decide) ?_
 simp only [go_sem,qa,qb,qc,qd,qe,qf,qg,qh,qi,qj,qk,ql,qm,qn,qo,qp,qq,qr,qs,reduceIte,reduceCtorEq,Bool.not_true,Bool.not_false]
 repeat' (first|refine hR _ _ _ (dst_of hnt rfl) ?_|refine bL ?_|refine vS fun K hK=>?_|refine hK _ ?_;clear hK K|refine hX ?_;clear hX hY X Y|refine hY ?_;clear hX hY X Y|refine vB ?_|refine hL _ _ ?_|((first|refine vR tok (by rw [hnt];rfl) ?_|refine vC fun X Y hX hY=>?_|refine vK ?_|(refine runS_c [2,3] (c6) rfl ?_ ?_ ?_))<;>(try simp only [go_sem,qa,qb,qc,qd,qe,qf,qg,qh,qi,qj,qk,ql,qm,qn,qo,qp,qq,qr,qs,reduceIte,reduceCtorEq,Packet.none]))|refine Fits.of ?_ ?_|refine aL ?_ fun hp=>?_|refine And.intro ?_ ?_|clear hK K|clear hL L)
 all_goals try (first|omega|(unfold Big;omega)|(rw [u8m];omega)|(rw [u8M];omega)|(simp only [dA,dB,dC];omega))
 simp only [go_sem,qa,qb,qc,qd,qe,qf,qg,qh,qi,qj,qk,ql,qm,qn,qo,qp,qq,qr,qs,reduceIte,reduceCtorEq,List.take_succ_cons,List.take_zero,List.length_cons,List.length_nil,List.drop_succ_cons,List.drop_zero]
 skip
 refine AWpI.isnil (dst_of hnt rfl) rfl rfl rfl Tryz.underlying66 rfl rfl ?_
 refine AWpI.done (by decide) ?_
 simp only [go_sem,qa,qb,qc,qd,qe,qf,qg,qh,qi,qj,qk,ql,qm,qn,qo,qp,qq,qr,qs,reduceIte,reduceCtorEq,Bool.not_true,Bool.not_false]
 repeat' (first|refine bL ?_|refine vS fun K hK=>?_|refine hK _ ?_;clear hK K|refine hX ?_;clear hX hY X Y|refine hY ?_;clear hX hY X Y|refine hL _ _ ?_|((first|refine vR tok (by rw [hnt];rfl) ?_|refine vC fun X Y hX hY=>?_|refine vK ?_|refine vE ?_|refine vT ?_|refine vF [] ?_|refine runS_c [] (cP) rfl ?_ ?_ ?_|refine runS_c [] (cK) rfl ?_ ?_ ?_|refine runS_c [] (cT) rfl ?_ ?_ ?_|(refine AWp.draw (id:=17) tok mixed (.tak 1 (.all (.cons 0 (.all (.cons 2 (.tak 3 .done) .nil)) .nil))) [0,1,2,3] [2] (by kernel_rfl) (by kernel_rfl) (by rw [hnt];rfl) ?_))<;>(try simp only [go_sem,qa,qb,qc,qd,qe,qf,qg,qh,qi,qj,qk,ql,qm,qn,qo,qp,qq,qr,qs,reduceIte,reduceCtorEq,h3,h4,Packet.none]))|refine Fits.of ?_ ?_|refine aL ?_ fun hp=>?_|refine And.intro ?_ ?_|clear hK K|clear hL L)
 all_goals first|(first|omega|(unfold Big;omega)|(rw [u8m];omega)|(rw [u8M];omega)|(simp only [dA,dB,dC];omega))
theorem parse_yes (s:Str) (m:Int) (a:Addr) (e7 e8:Value) (hs:s.length≤1000000) (h7:∃ te pe,e7=.iface te pe) (h8:∃ te pe,e8=.iface te pe) (h:s.length≤24) (h2:(cut 32 s).length=7) (a0:atoiOk ((cut 32 s).getD 0 [])=true) (a1:atoiOk ((cut 32 s).getD 1 [])=true) (a2:atoiOk ((cut 32 s).getD 2 [])=true) (a3:atoiOk ((cut 32 s).getD 3 [])=true) (a4:atoiOk ((cut 32 s).getD 4 [])=true) (a5:atoiOk ((cut 32 s).getD 5 [])=true) (a6:atoiOk ((cut 32 s).getD 6 [])=true) (h3:(Packet.ofWordsA (cut 32 s)).ok=true) (h4:(Packet.ofWordsA (cut 32 s)).text=s) :
   Call Tryz.prog 142 [U s] (GL m (.iface 268 (.pointer (some a))) e7 e8) 4 (.tup [(Packet.ofWordsA (cut 32 s)).av,.c (.t (.v .nilIface))]) (GL m (.iface 268 (.pointer (some a))) e7 e8) 4:=by
 have h5:(Packet.ofWordsA (cut 32 s)).textV=(Packet.ofWordsA (cut 32 s)).text:=by unfold Packet.textV;rw [if_pos h3]
 rw [← h5] at h4;clear h5
 unfold Packet.ofWordsA at h3 h4 ⊢
 have cS:=Split_ok s 32 m hs
 have hp:∀ i,((cut 32 s).getD i []).length≤1000000:=fun i=>Nat.le_trans (cut_piece2 32 s i) (by omega)
 have hcl:=cut_len 32 s
 have c0:=Atoi_yes _ e7 e8 (hp 0) h7 h8 a0
 have c1:=Atoi_yes _ e7 e8 (hp 1) h7 h8 a1
 have c2:=Atoi_yes _ e7 e8 (hp 2) h7 h8 a2
 have c3:=Atoi_yes _ e7 e8 (hp 3) h7 h8 a3
 have c4:=Atoi_yes _ e7 e8 (hp 4) h7 h8 a4
 have c5:=Atoi_yes _ e7 e8 (hp 5) h7 h8 a5
 have c6:=Atoi_yes _ e7 e8 (hp 6) h7 h8 a6
 have cP:=packetOf_ok ⟨atoiV ((cut 32 s).getD 0 []),atoiV ((cut 32 s).getD 1 []),atoiV ((cut 32 s).getD 2 []),atoiV ((cut 32 s).getD 3 []),atoiV ((cut 32 s).getD 4 []),atoiV ((cut 32 s).getD 5 []),atoiV ((cut 32 s).getD 6 [])⟩
 have cK:=iPacketOk_ok ⟨atoiV ((cut 32 s).getD 0 []),atoiV ((cut 32 s).getD 1 []),atoiV ((cut 32 s).getD 2 []),atoiV ((cut 32 s).getD 3 []),atoiV ((cut 32 s).getD 4 []),atoiV ((cut 32 s).getD 5 []),atoiV ((cut 32 s).getD 6 [])⟩
 have cT:=iPacketText_ok ⟨atoiV ((cut 32 s).getD 0 []),atoiV ((cut 32 s).getD 1 []),atoiV ((cut 32 s).getD 2 []),atoiV ((cut 32 s).getD 3 []),atoiV ((cut 32 s).getD 4 []),atoiV ((cut 32 s).getD 5 []),atoiV ((cut 32 s).getD 6 [])⟩
 refine vO tok Tryz.func142 rfl rfl Tryz.ntmps142 Tryz.results142 rfl (by decide) (fun cx hnt hk0=>?_)
 have hR:=fun (ops:List Oper) (Q:Exit→St→Prop) (s:St) (hd:dstOk cx.nt ops=true) h=>AWp.regN (P:=Tryz.prog) (c:=cx) (Q:=Q) (s:=s) (ops:=ops) (id:=11) 1 tok hd h

 repeat' (first|refine vS fun K hK=>?_|refine hK _ ?_;clear hK K|refine hY ?_;clear hX hY X Y|refine vB ?_|((first|refine vR tok (by rw [hnt];rfl) ?_|refine vC fun X Y hX hY=>?_|refine vK ?_|refine runS_c [0] (cS) rfl ?_ ?_ ?_|(apply gC<;>intro hq<;>(try simp only [nT,nF,n1,n0] at hq)<;>(have hb:=hq)<;>(try simp only [dT,dF,eT,eF] at hb)<;>first|(exfalso;omega)|((try simp only [hq]);clear hq)))<;>(try simp only [go_sem,qa,qb,qc,qd,qe,qf,qg,qh,qi,qj,qk,ql,qm,qn,qo,qp,qq,qr,qs,reduceIte,reduceCtorEq,h2,Packet.none])))
 all_goals try (first|omega|(unfold Big;omega)|(rw [u8m];omega)|(rw [u8M];omega)|(simp only [dA,dB,dC];omega))
 refine AWp.loopN 8 fun L hL=>?_
 repeat' (first|refine hR _ _ _ (dst_of hnt rfl) ?_|refine vS fun K hK=>?_|refine hK _ ?_;clear hK K|refine hX ?_;clear hX hY X Y|refine vB ?_|refine hL _ _ ?_|((first|refine vR tok (by rw [hnt];rfl) ?_|refine vC fun X Y hX hY=>?_|refine vK ?_|(refine runS_c [2,3] (c0) rfl ?_ ?_ ?_))<;>(try simp only [go_sem,qa,qb,qc,qd,qe,qf,qg,qh,qi,qj,qk,ql,qm,qn,qo,qp,qq,qr,qs,reduceIte,reduceCtorEq,Packet.none]))|refine aL ?_ fun hp=>?_|clear hK K|clear hL L)
 all_goals try (first|omega|(unfold Big;omega)|(rw [u8m];omega)|(rw [u8M];omega)|(simp only [dA,dB,dC];omega))
 simp only [go_sem,qa,qb,qc,qd,qe,qf,qg,qh,qi,qj,qk,ql,qm,qn,qo,qp,qq,qr,qs,reduceIte,reduceCtorEq,List.take_succ_cons,List.take_zero,List.length_cons,List.length_nil,List.drop_succ_cons,List.drop_zero]
 skip
 refine AWpI.isnil (dst_of hnt rfl) rfl rfl rfl Tryz.underlying66 rfl rfl ?_
 refine AWpI.done (by decide) ?_
 simp only [go_sem,qa,qb,qc,qd,qe,qf,qg,qh,qi,qj,qk,ql,qm,qn,qo,qp,qq,qr,qs,reduceIte,reduceCtorEq,Bool.not_true,Bool.not_false]
 repeat' (first|refine hR _ _ _ (dst_of hnt rfl) ?_|refine bL ?_|refine vS fun K hK=>?_|refine hK _ ?_;clear hK K|refine hX ?_;clear hX hY X Y|refine hY ?_;clear hX hY X Y|refine vB ?_|refine hL _ _ ?_|((first|refine vR tok (by rw [hnt];rfl) ?_|refine vC fun X Y hX hY=>?_|refine vK ?_|(refine runS_c [2,3] (c1) rfl ?_ ?_ ?_))<;>(try simp only [go_sem,qa,qb,qc,qd,qe,qf,qg,qh,qi,qj,qk,ql,qm,qn,qo,qp,qq,qr,qs,reduceIte,reduceCtorEq,Packet.none]))|refine Fits.of ?_ ?_|refine aL ?_ fun hp=>?_|refine And.intro ?_ ?_|clear hK K|clear hL L)
 all_goals try (first|omega|(unfold Big;omega)|(rw [u8m];omega)|(rw [u8M];omega)|(simp only [dA,dB,dC];omega))
 simp only [go_sem,qa,qb,qc,qd,qe,qf,qg,qh,qi,qj,qk,ql,qm,qn,qo,qp,qq,qr,qs,reduceIte,reduceCtorEq,List.take_succ_cons,List.take_zero,List.length_cons,List.length_nil,List.drop_succ_cons,List.drop_zero]
 skip
 refine AWpI.isnil (dst_of hnt rfl) rfl rfl rfl Tryz.underlying66 rfl rfl ?_
 refine AWpI.done (by decide) ?_
 simp only [go_sem,qa,qb,qc,qd,qe,qf,qg,qh,qi,qj,qk,ql,qm,qn,qo,qp,qq,qr,qs,reduceIte,reduceCtorEq,Bool.not_true,Bool.not_false]
 repeat' (first|refine hR _ _ _ (dst_of hnt rfl) ?_|refine bL ?_|refine vS fun K hK=>?_|refine hK _ ?_;clear hK K|refine hX ?_;clear hX hY X Y|refine hY ?_;clear hX hY X Y|refine vB ?_|refine hL _ _ ?_|((first|refine vR tok (by rw [hnt];rfl) ?_|refine vC fun X Y hX hY=>?_|refine vK ?_|(refine runS_c [2,3] (c2) rfl ?_ ?_ ?_))<;>(try simp only [go_sem,qa,qb,qc,qd,qe,qf,qg,qh,qi,qj,qk,ql,qm,qn,qo,qp,qq,qr,qs,reduceIte,reduceCtorEq,Packet.none]))|refine Fits.of ?_ ?_|refine aL ?_ fun hp=>?_|refine And.intro ?_ ?_|clear hK K|clear hL L)
 all_goals try (first|omega|(unfold Big;omega)|(rw [u8m];omega)|(rw [u8M];omega)|(simp only [dA,dB,dC];omega))
 simp only [go_sem,qa,qb,qc,qd,qe,qf,qg,qh,qi,qj,qk,ql,qm,qn,qo,qp,qq,qr,qs,reduceIte,reduceCtorEq,List.take_succ_cons,List.take_zero,List.length_cons,List.length_nil,List.drop_succ_cons,List.drop_zero]
 skip
 refine AWpI.isnil (dst_of hnt rfl) rfl rfl rfl Tryz.underlying66 rfl rfl ?_
 refine AWpI.done (by decide) ?_
 simp only [go_sem,qa,qb,qc,qd,qe,qf,qg,qh,qi,qj,qk,ql,qm,qn,qo,qp,qq,qr,qs,reduceIte,reduceCtorEq,Bool.not_true,Bool.not_false]
 repeat' (first|refine hR _ _ _ (dst_of hnt rfl) ?_|refine bL ?_|refine vS fun K hK=>?_|refine hK _ ?_;clear hK K|refine hX ?_;clear hX hY X Y|refine hY ?_;clear hX hY X Y|refine vB ?_|refine hL _ _ ?_|((first|refine vR tok (by rw [hnt];rfl) ?_|refine vC fun X Y hX hY=>?_|refine vK ?_|(refine runS_c [2,3] (c3) rfl ?_ ?_ ?_))<;>(try simp only [go_sem,qa,qb,qc,qd,qe,qf,qg,qh,qi,qj,qk,ql,qm,qn,qo,qp,qq,qr,qs,reduceIte,reduceCtorEq,Packet.none]))|refine Fits.of ?_ ?_|refine aL ?_ fun hp=>?_|refine And.intro ?_ ?_|clear hK K|clear hL L)
 all_goals try (first|omega|(unfold Big;omega)|(rw [u8m];omega)|(rw [u8M];omega)|(simp only [dA,dB,dC];omega))
 simp only [go_sem,qa,qb,qc,qd,qe,qf,qg,qh,qi,qj,qk,ql,qm,qn,qo,qp,qq,qr,qs,reduceIte,reduceCtorEq,List.take_succ_cons,List.take_zero,List.length_cons,List.length_nil,List.drop_succ_cons,List.drop_zero]
 skip
 refine AWpI.isnil (dst_of hnt rfl) rfl rfl rfl Tryz.underlying66 rfl rfl ?_
 refine AWpI.done (by decide) ?_
 simp only [go_sem,qa,qb,qc,qd,qe,qf,qg,qh,qi,qj,qk,ql,qm,qn,qo,qp,qq,qr,qs,reduceIte,reduceCtorEq,Bool.not_true,Bool.not_false]
 repeat' (first|refine hR _ _ _ (dst_of hnt rfl) ?_|refine bL ?_|refine vS fun K hK=>?_|refine hK _ ?_;clear hK K|refine hX ?_;clear hX hY X Y|refine hY ?_;clear hX hY X Y|refine vB ?_|refine hL _ _ ?_|((first|refine vR tok (by rw [hnt];rfl) ?_|refine vC fun X Y hX hY=>?_|refine vK ?_|(refine runS_c [2,3] (c4) rfl ?_ ?_ ?_))<;>(try simp only [go_sem,qa,qb,qc,qd,qe,qf,qg,qh,qi,qj,qk,ql,qm,qn,qo,qp,qq,qr,qs,reduceIte,reduceCtorEq,Packet.none]))|refine Fits.of ?_ ?_|refine aL ?_ fun hp=>?_|refine And.intro ?_ ?_|clear hK K|clear hL L)
 all_goals try (first|omega|(unfold Big;omega)|(rw [u8m];omega)|(rw [u8M];omega)|(simp only [dA,dB,dC];omega))
 simp only [go_sem,qa,qb,qc,qd,qe,qf,qg,qh,qi,qj,qk,ql,qm,qn,qo,qp,qq,qr,qs,reduceIte,reduceCtorEq,List.take_succ_cons,List.take_zero,List.length_cons,List.length_nil,List.drop_succ_cons,List.drop_zero]
 skip
 refine AWpI.isnil (dst_of hnt rfl) rfl rfl rfl Tryz.underlying66 rfl rfl ?_
 refine AWpI.done (by decide) ?_
 simp only [go_sem,qa,qb,qc,qd,qe,qf,qg,qh,qi,qj,qk,ql,qm,qn,qo,qp,qq,qr,qs,reduceIte,reduceCtorEq,Bool.not_true,Bool.not_false]
 repeat' (first|refine hR _ _ _ (dst_of hnt rfl) ?_|refine bL ?_|refine vS fun K hK=>?_|refine hK _ ?_;clear hK K|refine hX ?_;clear hX hY X Y|refine hY ?_;clear hX hY X Y|refine vB ?_|refine hL _ _ ?_|((first|refine vR tok (by rw [hnt];rfl) ?_|refine vC fun X Y hX hY=>?_|refine vK ?_|(refine runS_c [2,3] (c5) rfl ?_ ?_ ?_))<;>(try simp only [go_sem,qa,qb,qc,qd,qe,qf,qg,qh,qi,qj,qk,ql,qm,qn,qo,qp,qq,qr,qs,reduceIte,reduceCtorEq,Packet.none]))|refine Fits.of ?_ ?_|refine aL ?_ fun hp=>?_|refine And.intro ?_ ?_|clear hK K|clear hL L)
 all_goals try (first|omega|(unfold Big;omega)|(rw [u8m];omega)|(rw [u8M];omega)|(simp only [dA,dB,dC];omega))
 simp only [go_sem,qa,qb,qc,qd,qe,qf,qg,qh,qi,qj,qk,ql,qm,qn,qo,qp,qq,qr,qs,reduceIte,reduceCtorEq,List.take_succ_cons,List.take_zero,List.length_cons,List.length_nil,List.drop_succ_cons,List.drop_zero]
 skip
 refine AWpI.isnil (dst_of hnt rfl) rfl rfl rfl Tryz.underlying66 rfl rfl ?_
 refine AWpI.done (by decide) ?_
 simp only [go_sem,qa,qb,qc,qd,qe,qf,qg,qh,qi,qj,qk,ql,qm,qn,qo,qp,qq,qr,qs,reduceIte,reduceCtorEq,Bool.not_true,Bool.not_false]
 repeat' (first|refine hR _ _ _ (dst_of hnt rfl) ?_|refine bL ?_|refine vS fun K hK=>?_|refine hK _ ?_;clear hK K|refine hX ?_;clear hX hY X Y|refine hY ?_;clear hX hY X Y|refine vB ?_|refine hL _ _ ?_|((first|refine vR tok (by rw [hnt];rfl) ?_|refine vC fun X Y hX hY=>?_|refine vK ?_|(refine runS_c [2,3] (c6) rfl ?_ ?_ ?_))<;>(try simp only [go_sem,qa,qb,qc,qd,qe,qf,qg,qh,qi,qj,qk,ql,qm,qn,qo,qp,qq,qr,qs,reduceIte,reduceCtorEq,Packet.none]))|refine Fits.of ?_ ?_|refine aL ?_ fun hp=>?_|refine And.intro ?_ ?_|clear hK K|clear hL L)
 all_goals try (first|omega|(unfold Big;omega)|(rw [u8m];omega)|(rw [u8M];omega)|(simp only [dA,dB,dC];omega))
 simp only [go_sem,qa,qb,qc,qd,qe,qf,qg,qh,qi,qj,qk,ql,qm,qn,qo,qp,qq,qr,qs,reduceIte,reduceCtorEq,List.take_succ_cons,List.take_zero,List.length_cons,List.length_nil,List.drop_succ_cons,List.drop_zero]
 skip
 refine AWpI.isnil (dst_of hnt rfl) rfl rfl rfl Tryz.underlying66 rfl rfl ?_
 refine AWpI.done (by decide) ?_
 simp only [go_sem,qa,qb,qc,qd,qe,qf,qg,qh,qi,qj,qk,ql,qm,qn,qo,qp,qq,qr,qs,reduceIte,reduceCtorEq,Bool.not_true,Bool.not_false]
 repeat' (first|refine bL ?_|refine vS fun K hK=>?_|refine hK _ ?_;clear hK K|refine hY ?_;clear hX hY X Y|refine hL _ _ ?_|((first|refine vR tok (by rw [hnt];rfl) ?_|refine vC fun X Y hX hY=>?_|refine vK ?_|refine vE ?_|refine vT ?_|refine vF [] ?_|refine runS_c [] (cP) rfl ?_ ?_ ?_|refine runS_c [] (cK) rfl ?_ ?_ ?_|(refine runS_c [] (cT) rfl ?_ ?_ ?_))<;>(try simp only [go_sem,qa,qb,qc,qd,qe,qf,qg,qh,qi,qj,qk,ql,qm,qn,qo,qp,qq,qr,qs,reduceIte,reduceCtorEq,h3,h4]))|refine Fits.of ?_ ?_|refine aL ?_ fun hp=>?_|refine And.intro ?_ ?_|clear hK K|clear hL L)
 all_goals first|(first|omega|(unfold Big;omega)|(rw [u8m];omega)|(rw [u8M];omega)|(simp only [dA,dB,dC];omega))
theorem parse_y (s:Str) (m:Int) (a:Addr) (e7 e8:Value) (hs:s.length≤1000000) (h7:∃ te pe,e7=.iface te pe) (h8:∃ te pe,e8=.iface te pe) (h:readB s=true) :
   Call Tryz.prog 142 [U s] (GL m (.iface 268 (.pointer (some a))) e7 e8) 4 (.tup [(readP s).av,.c (.t (.v .nilIface))]) (GL m (.iface 268 (.pointer (some a))) e7 e8) 4:=by
 obtain ⟨h1,h2,h3,h4,h5⟩:=read_inv s h
 rw [(read_yes s h1 h2 h4 h5).2]
 exact parse_yes s m a e7 e8 hs h7 h8 h1 h2 (h3 0 (by omega)) (h3 1 (by omega)) (h3 2 (by omega)) (h3 3 (by omega)) (h3 4 (by omega)) (h3 5 (by omega)) (h3 6 (by omega)) h4 h5
theorem parse_n (s:Str) (m:Int) (a:Addr) (e7 e8:Value) (hs:s.length≤1000000) (h7:∃ te pe,e7=.iface te pe) (h8:∃ te pe,e8=.iface te pe) (h:¬ readB s=true) :
   Call Tryz.prog 142 [U s] (GL m (.iface 268 (.pointer (some a))) e7 e8) 4 (.tup [Packet.none.av,.c (.t (.v (.iface 268 (.pointer (some a)))))]) (GL m (.iface 268 (.pointer (some a))) e7 e8) 4:=by
 by_cases h1:s.length≤24
 · by_cases h2 : (cut 32 s).length=7
   · by_cases a0 : atoiOk ((cut 32 s).getD 0 [])=true
     · by_cases a1 : atoiOk ((cut 32 s).getD 1 [])=true
       · by_cases a2 :atoiOk ((cut 32 s).getD 2 [])=true
         · by_cases a3:atoiOk ((cut 32 s).getD 3 [])=true
           · by_cases a4:atoiOk ((cut 32 s).getD 4 [])=true
             · by_cases a5:atoiOk ((cut 32 s).getD 5 [])=true
               · by_cases a6:atoiOk ((cut 32 s).getD 6 [])=true
                 · by_cases h3:(Packet.ofWordsA (cut 32 s)).ok=true
                   · by_cases h4:(Packet.ofWordsA (cut 32 s)).text=s
                     · exact absurd (read_yes s h1 h2 h3 h4).1 h
                     · exact parse_diff s m a e7 e8 hs h7 h8 h1 h2 a0 a1 a2 a3 a4 a5 a6 h3 h4
                   · exact parse_no s m a e7 e8 hs h7 h8 h1 h2 a0 a1 a2 a3 a4 a5 a6 h3
                 · exact parse_bad6 s m a e7 e8 hs h7 h8 h1 h2 a0 a1 a2 a3 a4 a5 a6
               · exact parse_bad5 s m a e7 e8 hs h7 h8 h1 h2 a0 a1 a2 a3 a4 a5
             · exact parse_bad4 s m a e7 e8 hs h7 h8 h1 h2 a0 a1 a2 a3 a4
           · exact parse_bad3 s m a e7 e8 hs h7 h8 h1 h2 a0 a1 a2 a3
         · exact parse_bad2 s m a e7 e8 hs h7 h8 h1 h2 a0 a1 a2
       · exact parse_bad1 s m a e7 e8 hs h7 h8 h1 h2 a0 a1
     · exact parse_bad0 s m a e7 e8 hs h7 h8 h1 h2 a0
   · exact parse_few s m a e7 e8 hs h7 h8 h1 h2
 · exact parse_long s m a e7 e8 hs h7 h8 h1
theorem iPacketRead_yes (s:Str) (m:Int) (a:Addr) (e7 e8:Value) (hs:s.length≤1000000) (h7:∃ te pe,e7=.iface te pe) (h8:∃ te pe,e8=.iface te pe) (h:readB s=true) :
   Call Tryz.prog 105 [U s] (GL m (.iface 268 (.pointer (some a))) e7 e8) 4 (.tup [(readP s).av,BB true]) (GL m (.iface 268 (.pointer (some a))) e7 e8) 4:=by
 have c1:=parse_y s m a e7 e8 hs h7 h8 h
 have c2:=Is_nil a
 refine vO tok Tryz.func105 rfl rfl Tryz.ntmps105 Tryz.results105 rfl (by decide) (fun cx hnt hk0=>?_)

 repeat' (first|refine vS fun K hK=>?_|refine hK _ ?_;clear hK K|refine hY ?_;clear hX hY X Y|((first|refine vR tok (by rw [hnt];rfl) ?_|refine vC fun X Y hX hY=>?_|refine vK ?_|refine vT ?_|refine vF [] ?_|refine runS_c [0,1,2,3] (c1) rfl ?_ ?_ ?_|(refine runS_c [] (c2) rfl ?_ ?_ ?_))<;>(try simp only [go_sem,qa,qb,qc,qd,qe,qf,qg,qh,qi,qj,qk,ql,qm,qn,qo,qp,qq,qr,qs,reduceIte,reduceCtorEq])))
 all_goals first|(first|omega|(unfold Big;omega)|(rw [u8m];omega)|(rw [u8M];omega)|(simp only [dA,dB,dC];omega))
theorem iPacketRead_no (s:Str) (m:Int) (a:Addr) (e7 e8:Value) (hs:s.length≤1000000) (h7:∃ te pe,e7=.iface te pe) (h8:∃ te pe,e8=.iface te pe) (h:¬ readB s=true) :
   Call Tryz.prog 105 [U s] (GL m (.iface 268 (.pointer (some a))) e7 e8) 4 (.tup [Packet.none.av,BB false]) (GL m (.iface 268 (.pointer (some a))) e7 e8) 4:=by
 have c1:=parse_n s m a e7 e8 hs h7 h8 h
 have c2:=Is_same a
 refine vO tok Tryz.func105 rfl rfl Tryz.ntmps105 Tryz.results105 rfl (by decide) (fun cx hnt hk0=>?_)

 repeat' (first|refine vS fun K hK=>?_|refine hK _ ?_;clear hK K|refine hX ?_;clear hX hY X Y|((first|refine vR tok (by rw [hnt];rfl) ?_|refine vC fun X Y hX hY=>?_|refine vT ?_|refine vF [] ?_|refine runS_c [0,1,2,3] (c1) rfl ?_ ?_ ?_|(refine runS_c [] (c2) rfl ?_ ?_ ?_))<;>(try simp only [go_sem,qa,qb,qc,qd,qe,qf,qg,qh,qi,qj,qk,ql,qm,qn,qo,qp,qq,qr,qs,reduceIte,reduceCtorEq,Packet.none])))
 all_goals first|(first|omega|(unfold Big;omega)|(rw [u8m];omega)|(rw [u8M];omega)|(simp only [dA,dB,dC];omega))
theorem iPacketRead_ok (s:Str) (m:Int) (a:Addr) (e7 e8:Value) (hs:s.length≤1000000) (h7:∃ te pe,e7=.iface te pe) (h8:∃ te pe,e8=.iface te pe) :
   Call Tryz.prog 105 [U s] (GL m (.iface 268 (.pointer (some a))) e7 e8) 4 (.tup [(readP s).av,BB (readB s)]) (GL m (.iface 268 (.pointer (some a))) e7 e8) 4:=by
 by_cases h:readB s=true
 · rw [h];exact iPacketRead_yes s m a e7 e8 hs h7 h8 h
 · obtain ⟨e1,e2⟩:=read_no h
   rw [e1,e2];exact iPacketRead_no s m a e7 e8 hs h7 h8 h
theorem linePacket_few (s:Str) (m:Int) (a:Addr) (e7 e8:Value) (hs:s.length≤1000000) (h:¬ 4≤(cut 32 s).length) :
   Call Tryz.prog 70 [U s] (GL m (.iface 268 (.pointer (some a))) e7 e8) 4 (.o Packet.none.av) (GL m (.iface 268 (.pointer (some a))) e7 e8) 4:=by
 have c1:=SplitN_ok s m hs
 have hl:(split4 s).length < 4:=by unfold split4;rw [if_pos (by omega)];omega
 have hl':((split4 s).length:Int) < 4:=by omega
 refine vO tok Tryz.func70 rfl rfl Tryz.ntmps70 Tryz.results70 rfl (by decide) (fun cx hnt hk0=>?_)

 repeat' (first|refine vS fun K hK=>?_|refine hK _ ?_;clear hK K|refine hX ?_;clear hX hY X Y|((first|refine vR tok (by rw [hnt];rfl) ?_|refine vC fun X Y hX hY=>?_|refine vT ?_|refine vF [] ?_|refine runS_c [0] (c1) rfl ?_ ?_ ?_|(apply gC<;>intro hq<;>(try simp only [nT,nF,n1,n0] at hq)<;>(have hb:=hq)<;>(try simp only [dT,dF,eT,eF] at hb)<;>first|(exfalso;omega)|((try simp only [hq]);clear hq)))<;>(try simp only [go_sem,qa,qb,qc,qd,qe,qf,qg,qh,qi,qj,qk,ql,qm,qn,qo,qp,qq,qr,qs,reduceIte,reduceCtorEq,Packet.none])))
 all_goals first|(first|omega|(unfold Big;omega)|(rw [u8m];omega)|(rw [u8M];omega)|(simp only [dA,dB,dC];omega))
theorem linePacket_many (s:Str) (m:Int) (a:Addr) (e7 e8:Value) (hs:s.length≤1000000) (h7:∃ te pe,e7=.iface te pe) (h8:∃ te pe,e8=.iface te pe) (h:4≤(cut 32 s).length) :
   Call Tryz.prog 70 [U s] (GL m (.iface 268 (.pointer (some a))) e7 e8) 4 (.o (readP ((split4 s).getD 3 [])).av) (GL m (.iface 268 (.pointer (some a))) e7 e8) 4:=by
 have c1:=SplitN_ok s m hs
 have hl:(split4 s).length=4:=by unfold split4;rw [if_neg (by omega)];rfl
 have hp:((split4 s).getD 3 []).length≤1000000:=by unfold split4;rw [if_neg (by omega)];simp;omega
 have c2:=iPacketRead_ok ((split4 s).getD 3 []) m a e7 e8 hp h7 h8
 refine vO tok Tryz.func70 rfl rfl Tryz.ntmps70 Tryz.results70 rfl (by decide) (fun cx hnt hk0=>?_)

 repeat' (first|refine vS fun K hK=>?_|refine hK _ ?_;clear hK K|refine hY ?_;clear hX hY X Y|((first|refine vR tok (by rw [hnt];rfl) ?_|refine vC fun X Y hX hY=>?_|refine vK ?_|refine vT ?_|refine vF [] ?_|refine runS_c [0] (c1) rfl ?_ ?_ ?_|(refine runS_c [0,1,2,3] (c2) rfl ?_ ?_ ?_))<;>(try simp only [go_sem,qa,qb,qc,qd,qe,qf,qg,qh,qi,qj,qk,ql,qm,qn,qo,qp,qq,qr,qs,reduceIte,reduceCtorEq,hl]))|refine aL ?_ fun hp=>?_|clear hK K)
 all_goals first|(first|omega|(unfold Big;omega)|(rw [u8m];omega)|(rw [u8M];omega)|(simp only [dA,dB,dC];omega))
theorem linePacket_ok (s:Str) (m:Int) (a:Addr) (e7 e8:Value) (hs:s.length≤1000000) (h7:∃ te pe,e7=.iface te pe) (h8:∃ te pe,e8=.iface te pe) (h0:(cut 32 s).getD 0 []=wGet) :
   Call Tryz.prog 70 [U s] (GL m (.iface 268 (.pointer (some a))) e7 e8) 4 (.o (readP (lineTail s)).av) (GL m (.iface 268 (.pointer (some a))) e7 e8) 4:=by
 by_cases h:4≤(cut 32 s).length
 · rw [tail_many s h0 (by omega)];exact linePacket_many s m a e7 e8 hs h7 h8 h
 · rw [tail_few s h0 (by omega)];exact linePacket_few s m a e7 e8 hs h
end Go.Hw
namespace Go.Hw
open Go.Proofs
theorem lineNumber_out (w:List Str) (k:Nat) (hk:k≤100) (hl:w.length≤1000000) (h:¬ k < w.length):Call Tryz.prog 35 [.c (.t (strsT w)),I k] [] 0 (.o (I (numAt w k))) [] 0:=by
 have e:numAt w k = -1:=by unfold numAt;rw [if_neg h]
 rw [e]
 have h':(w.length:Int)≤k:=by omega
 refine vO tok Tryz.func35 rfl rfl Tryz.ntmps35 Tryz.results35 rfl (by decide) (fun cx hnt hk0=>?_)
 repeat' (first|refine vS fun K hK=>?_|refine hK _ ?_;clear hK K|refine hX ?_;clear hX hY X Y|((first|refine vR tok (by rw [hnt];rfl) ?_|refine vC fun X Y hX hY=>?_|refine vT ?_|refine vF [] ?_|(apply gC<;>intro hq<;>(try simp only [nT,nF,n1,n0] at hq)<;>(have hb:=hq)<;>(try simp only [dT,dF,eT,eF] at hb)<;>first|(exfalso;omega)|((try simp only [hq]);clear hq)))<;>(try simp only [go_sem,qa,qb,qc,qd,qe,qf,qg,qh,qi,qj,qk,ql,qm,qn,qo,qp,qq,qr,qs,reduceIte,reduceCtorEq])))
 all_goals first|omega
theorem lineNumber_long (w:List Str) (k:Nat) (hk:k≤100) (hl:w.length≤1000000) (h:k < w.length) (h2:¬ (1≤(w.getD k []).length∧(w.getD k []).length≤2)) (h3:(w.getD k []).length≤1000000):Call Tryz.prog 35 [.c (.t (strsT w)),I k] [] 0 (.o (I (numAt w k))) [] 0:=by
 have e:numAt w k = -1:=by unfold numAt;rw [if_pos h];exact dec2_no _ h2
 rw [e]
 refine vO tok Tryz.func35 rfl rfl Tryz.ntmps35 Tryz.results35 rfl (by decide) (fun cx hnt hk0=>?_)
 repeat' (first|refine vS fun K hK=>?_|refine hK _ ?_;clear hK K|refine hX ?_;clear hX hY X Y|refine hY ?_;clear hX hY X Y|((first|refine vR tok (by rw [hnt];rfl) ?_|refine vC fun X Y hX hY=>?_|refine vK ?_|refine vT ?_|refine vF [] ?_|((first|apply gR|apply gC)<;>intro hq<;>(try simp only [nT,nF,n1,n0] at hq)<;>(have hb:=hq)<;>(try simp only [dT,dF,eT,eF] at hb)<;>first|(exfalso;omega)|((try simp only [hq]);clear hq)))<;>(try simp only [go_sem,qa,qb,qc,qd,qe,qf,qg,qh,qi,qj,qk,ql,qm,qn,qo,qp,qq,qr,qs,reduceIte,reduceCtorEq]))|refine aE ?_ fun hp=>?_|refine aC ?_ fun hp=>?_|clear hK K)
 all_goals first|omega
theorem lineNumber_1 (w:List Str) (k:Nat) (hk:k≤100) (hl:w.length≤1000000) (h:k < w.length) (a:UInt8) (h2:w.getD k []=[a]):Call Tryz.prog 35 [.c (.t (strsT w)),I k] [] 0 (.o (I (numAt w k))) [] 0:=by
 have e:numAt w k=dec2 [a]:=by unfold numAt;rw [if_pos h,h2]
 have ha:a.toNat < 256:=a.toNat_lt
 rw [e,dec2_1]
 refine vO tok Tryz.func35 rfl rfl Tryz.ntmps35 Tryz.results35 rfl (by decide) (fun cx hnt hk0=>?_)
 have hR:=fun (ops:List Oper) (Q:Exit→St→Prop) (s:St) (hd:dstOk cx.nt ops=true) h=>AWp.regN (P:=Tryz.prog) (c:=cx) (Q:=Q) (s:=s) (ops:=ops) (id:=7) 1 tok hd h
 repeat' (first|refine hR _ _ _ (dst_of hnt rfl) ?_|refine vS fun K hK=>?_|refine hK _ ?_;clear hK K|refine hY ?_;clear hX hY X Y|((first|refine vR tok (by rw [hnt];rfl) ?_|refine vC fun X Y hX hY=>?_|refine vK ?_|((first|apply gR|apply gC)<;>intro hq<;>(try simp only [nT,nF,n1,n0] at hq)<;>(have hb:=hq)<;>(try simp only [dT,dF,eT,eF] at hb)<;>first|(exfalso;omega)|((try simp only [hq]);clear hq)))<;>(try simp only [go_sem,qa,qb,qc,qd,qe,qf,qg,qh,qi,qj,qk,ql,qm,qn,qo,qp,qq,qr,qs,reduceIte,reduceCtorEq,h2]))|refine aE ?_ fun hp=>?_|refine aC ?_ fun hp=>?_|clear hK K)
 all_goals try omega
 simp only [go_sem,qa,qb,qc,qd,qe,qf,qg,qh,qi,qj,qk,ql,qm,qn,qo,qp,qq,qr,qs,reduceIte,reduceCtorEq,List.take_succ_cons,List.take_zero,List.length_cons,List.length_nil]
 skip
 refine AWpI.bytes tok (dst_of hnt rfl) (s8:=ByteArray.mk (List.toArray [a])) (ta:=_) (tb:=_) (te:=_) (e:=5) rfl rfl rfl rfl rfl rfl rfl rfl rfl rfl ?_
 refine AWpI.rest tok (dst_of hnt rfl) ?_
 simp only [go_sem,qa,qb,qc,qd,qe,qf,qg,qh,qi,qj,qk,ql,qm,qn,qo,qp,qq,qr,qs,reduceIte,reduceCtorEq,List.drop_succ_cons,List.drop_zero]
 repeat' (first|refine hK _ ?_;clear hK K|refine vB ?_)
 all_goals try omega
 refine AWp.loopN 2 fun L hL=>?_
 repeat' (first|refine vS fun K hK=>?_|refine hK _ ?_;clear hK K|refine hX ?_;clear hX hY X Y|refine hY ?_;clear hX hY X Y|refine vB ?_|refine hL _ _ ?_|((first|refine vR tok (by rw [hnt];rfl) ?_|refine vC fun X Y hX hY=>?_|refine vK ?_|refine vE ?_|refine vT ?_|refine vF [] ?_|((first|apply gR|apply gC)<;>intro hq<;>(try simp only [nT,nF,n1,n0] at hq)<;>(have hb:=hq)<;>(try simp only [dT,dF,eT,eF] at hb)<;>first|(exfalso;omega)|((try simp only [hq]);clear hq)))<;>(try simp only [go_sem,qa,qb,qc,qd,qe,qf,qg,qh,qi,qj,qk,ql,qm,qn,qo,qp,qq,qr,qs,reduceIte,reduceCtorEq,List.getD_cons_zero]))|refine Fits.of ?_ ?_|refine aL ?_ fun hp=>?_|refine aE ?_ fun hp=>?_|refine And.intro ?_ ?_|clear hK K|clear hL L)
 all_goals first|omega|(rw [u8m];omega)|(rw [u8M];omega)|(split<;>omega)
theorem lineNumber_2 (w:List Str) (k:Nat) (hk:k≤100) (hl:w.length≤1000000) (h:k < w.length) (a b:UInt8) (h2:w.getD k []=[a,b]):Call Tryz.prog 35 [.c (.t (strsT w)),I k] [] 0 (.o (I (numAt w k))) [] 0:=by
 have e:numAt w k=dec2 [a,b]:=by unfold numAt;rw [if_pos h,h2]
 have ha:a.toNat < 256:=a.toNat_lt
 have hbb:b.toNat < 256:=b.toNat_lt
 rw [e,dec2_2]
 refine vO tok Tryz.func35 rfl rfl Tryz.ntmps35 Tryz.results35 rfl (by decide) (fun cx hnt hk0=>?_)
 have hR:=fun (ops:List Oper) (Q:Exit→St→Prop) (s:St) (hd:dstOk cx.nt ops=true) h=>AWp.regN (P:=Tryz.prog) (c:=cx) (Q:=Q) (s:=s) (ops:=ops) (id:=7) 1 tok hd h
 repeat' (first|refine hR _ _ _ (dst_of hnt rfl) ?_|refine vS fun K hK=>?_|refine hK _ ?_;clear hK K|refine hY ?_;clear hX hY X Y|((first|refine vR tok (by rw [hnt];rfl) ?_|refine vC fun X Y hX hY=>?_|refine vK ?_|((first|apply gR|apply gC)<;>intro hq<;>(try simp only [nT,nF,n1,n0] at hq)<;>(have hb:=hq)<;>(try simp only [dT,dF,eT,eF] at hb)<;>first|(exfalso;omega)|((try simp only [hq]);clear hq)))<;>(try simp only [go_sem,qa,qb,qc,qd,qe,qf,qg,qh,qi,qj,qk,ql,qm,qn,qo,qp,qq,qr,qs,reduceIte,reduceCtorEq,h2]))|refine aE ?_ fun hp=>?_|refine aC ?_ fun hp=>?_|clear hK K)
 all_goals try omega
 simp only [go_sem,qa,qb,qc,qd,qe,qf,qg,qh,qi,qj,qk,ql,qm,qn,qo,qp,qq,qr,qs,reduceIte,reduceCtorEq,List.take_succ_cons,List.take_zero,List.length_cons,List.length_nil]
 skip
 refine AWpI.bytes tok (dst_of hnt rfl) (s8:=ByteArray.mk (List.toArray [a,b])) (ta:=_) (tb:=_) (te:=_) (e:=5) rfl rfl rfl rfl rfl rfl rfl rfl rfl rfl ?_
 refine AWpI.rest tok (dst_of hnt rfl) ?_
 simp only [go_sem,qa,qb,qc,qd,qe,qf,qg,qh,qi,qj,qk,ql,qm,qn,qo,qp,qq,qr,qs,reduceIte,reduceCtorEq,List.drop_succ_cons,List.drop_zero]
 repeat' (first|refine hK _ ?_;clear hK K|refine vB ?_)
 all_goals try omega
 refine AWp.loopN 3 fun L hL=>?_
 repeat' (first|refine vS fun K hK=>?_|refine hK _ ?_;clear hK K|refine hX ?_;clear hX hY X Y|refine hY ?_;clear hX hY X Y|refine vB ?_|refine hL _ _ ?_|((first|refine vR tok (by rw [hnt];rfl) ?_|refine vC fun X Y hX hY=>?_|refine vK ?_|refine vE ?_|refine vT ?_|refine vF [] ?_|((first|apply gR|apply gC)<;>intro hq<;>(try simp only [nT,nF,n1,n0] at hq)<;>(have hb:=hq)<;>(try simp only [dT,dF,eT,eF] at hb)<;>first|(exfalso;omega)|((try simp only [hq]);clear hq)))<;>(try simp only [go_sem,qa,qb,qc,qd,qe,qf,qg,qh,qi,qj,qk,ql,qm,qn,qo,qp,qq,qr,qs,reduceIte,reduceCtorEq,List.getD_cons_zero,List.getD_cons_succ]))|refine Fits.of ?_ ?_|refine aL ?_ fun hp=>?_|refine aE ?_ fun hp=>?_|refine And.intro ?_ ?_|clear hK K|clear hL L)
 all_goals first|omega|(rw [u8m];omega)|(rw [u8M];omega)|(split<;>omega)
theorem lineNumber_ok (w:List Str) (k:Nat) (hk:k≤100) (hl:w.length≤1000000) (hw:∀ i,(w.getD i []).length≤1000000):Call Tryz.prog 35 [.c (.t (strsT w)),I k] [] 0 (.o (I (numAt w k))) [] 0:=by
 by_cases h:k < w.length
 · by_cases h2:1≤(w.getD k []).length∧(w.getD k []).length≤2
   · match hc:w.getD k [],h2 with
     | [],h=>simp at h
     | [a],_=>exact lineNumber_1 w k hk hl h a hc
     | [a,b],_=>exact lineNumber_2 w k hk hl h a b hc
     | _ ::_ ::_ ::_,h=>simp at h
   · exact lineNumber_long w k hk hl h h2 (hw k)
 · exact lineNumber_out w k hk hl h
theorem lineNumber_own (w:List Str) (k:Nat) (hk:k≤100) (hl:w.length≤1000000) (hw:∀ i,(w.getD i []).length≤1000000):Call Tryz.prog 35 [.c (.sl 0 1 0 w.length),I k] [(0,rU w)] 1 (.o (I (numAt w k))) [(0,rU w)] 1 :=
 Call.own (rest:=[.int .i64 k]) (by simp [plain]) (lineNumber_ok w k hk hl hw)
end Go.Hw
namespace Go.Hw
open Go.Proofs
attribute [local irreducible] Fits
def GLW (m:Int) (a:Addr) (e7 e8:Value) (s:Str):Heap:=[(0,.glob 0 (.int .i64 m)),(1,.glob 1 (.iface 268 (.pointer (some a)))),(2,.glob 7 e7),(3,.glob 8 e8),(4,rU (cut 32 s))]
def iE (line:Str):Event :=
 let w:=cut 32 line
 let a:=w.getD 0 []
 if a=wBlock then ⟨1,numAt w 1,0,0,Packet.none⟩
 else if a=wKnow then ⟨2,numAt w 1,numAt w 2,0,Packet.none⟩
 else if a=wSend then ⟨3,numAt w 1,0,0,⟨0,numAt w 2,numAt w 3,numAt w 4,numAt w 5,numAt w 6,0⟩⟩
 else if a=wGet then ⟨4,numAt w 1,numAt w 2,0,readP (lineTail line)⟩
 else if a=wTell then ⟨5,numAt w 1,numAt w 2,numAt w 3,Packet.none⟩
 else if a=wLate then ⟨6,numAt w 1,numAt w 2,numAt w 3,Packet.none⟩
 else ⟨7,numAt w 1,numAt w 2,numAt w 3,Packet.none⟩
theorem lineNumber_row (w:List Str) (k:Nat) (j:Int) (e:j=k) (hk:k≤100) (hl:w.length≤1000000) (hw:∀ i,(w.getD i []).length≤1000000):Call Tryz.prog 35 [.c (.sl 0 1 0 w.length),I j] [(0,rU w)] 1 (.o (I (numAt w k))) [(0,rU w)] 1:=by
 subst e;exact lineNumber_own w k hk hl hw
theorem iE_on (w:Two) (line:Str):w.on (iE line)=w.on (lineE line):=by
 unfold iE lineE
 dsimp only
 split
 · unfold Two.on Chain.on;simp
 split
 · unfold Two.on Chain.on;simp
 split
 · rfl
 split
 · unfold Two.on Chain.on Chain.relay;simp
 rfl
theorem lineEvent_Block (s:Str) (m:Int) (a:Addr) (e7 e8:Value) (hs:s.length≤600) (h7:∃ te pe,e7=.iface te pe) (h8:∃ te pe,e8=.iface te pe) (h0:(cut 32 s).getD 0 []=wBlock) :
   Call Tryz.prog 39 [U s,.c (.sl 4 1 0 (cut 32 s).length)] (GLW m a e7 e8 s) 5 (.o (Event.av ⟨1,numAt (cut 32 s) 1,0,0,Packet.none⟩)) (GLW m a e7 e8 s) 5:=by
 have hs:s.length≤1000000:=by omega
 have hp:∀ i,((cut 32 s).getD i []).length≤1000000:=fun i=>Nat.le_trans (cut_piece2 32 s i) (by omega)
 have hcl:=cut_len 32 s
 have c1:=lineNumber_row (cut 32 s) 1 1 rfl (by omega) (by omega) hp
 have h0:(cut 32 s).getD 0 []=[98,108,111,99,107]:=h0
 unfold GLW
 refine vO tok Tryz.func39 rfl rfl Tryz.ntmps39 Tryz.results39 rfl (by decide) (fun cx hnt hk0=>?_)

 repeat' (first|refine vS fun K hK=>?_|refine hK _ ?_;clear hK K|refine hX ?_;clear hX hY X Y|refine vB ?_|((first|refine vR tok (by rw [hnt];rfl) ?_|refine vC fun X Y hX hY=>?_|refine vT ?_|refine vF [] ?_|(refine runS_c [4] (c1) rfl ?_ ?_ ?_))<;>(try simp only [go_sem,qa,qb,qc,qd,qe,qf,qg,qh,qi,qj,qk,ql,qm,qn,qo,qp,qq,qr,qs,reduceIte,reduceCtorEq,h0,Packet.none]))|refine aL ?_ fun hp=>?_|clear hK K)
 all_goals first|(first|omega|(unfold Big;omega)|(rw [u8m];omega)|(rw [u8M];omega)|(simp only [dA,dB,dC];omega))
theorem lineEvent_Know (s:Str) (m:Int) (a:Addr) (e7 e8:Value) (hs:s.length≤600) (h7:∃ te pe,e7=.iface te pe) (h8:∃ te pe,e8=.iface te pe) (h0:(cut 32 s).getD 0 []=wKnow) :
   Call Tryz.prog 39 [U s,.c (.sl 4 1 0 (cut 32 s).length)] (GLW m a e7 e8 s) 5 (.o (Event.av ⟨2,numAt (cut 32 s) 1,numAt (cut 32 s) 2,0,Packet.none⟩)) (GLW m a e7 e8 s) 5:=by
 have hs:s.length≤1000000:=by omega
 have hp:∀ i,((cut 32 s).getD i []).length≤1000000:=fun i=>Nat.le_trans (cut_piece2 32 s i) (by omega)
 have hcl:=cut_len 32 s
 have c1:=lineNumber_row (cut 32 s) 1 1 rfl (by omega) (by omega) hp
 have c2:=lineNumber_row (cut 32 s) 2 2 rfl (by omega) (by omega) hp
 have h0:(cut 32 s).getD 0 []=[107,110,111,119]:=h0
 unfold GLW
 refine vO tok Tryz.func39 rfl rfl Tryz.ntmps39 Tryz.results39 rfl (by decide) (fun cx hnt hk0=>?_)

 repeat' (first|refine vS fun K hK=>?_|refine hK _ ?_;clear hK K|refine hX ?_;clear hX hY X Y|refine hY ?_;clear hX hY X Y|refine vB ?_|((first|refine vR tok (by rw [hnt];rfl) ?_|refine vC fun X Y hX hY=>?_|refine vK ?_|refine vT ?_|refine vF [] ?_|refine runS_c [4] (c1) rfl ?_ ?_ ?_|(refine runS_c [4] (c2) rfl ?_ ?_ ?_))<;>(try simp only [go_sem,qa,qb,qc,qd,qe,qf,qg,qh,qi,qj,qk,ql,qm,qn,qo,qp,qq,qr,qs,reduceIte,reduceCtorEq,h0,Packet.none]))|refine aL ?_ fun hp=>?_|clear hK K)
 all_goals first|(first|omega|(unfold Big;omega)|(rw [u8m];omega)|(rw [u8M];omega)|(simp only [dA,dB,dC];omega))
theorem lineEvent_Send (s:Str) (m:Int) (a:Addr) (e7 e8:Value) (hs:s.length≤600) (h7:∃ te pe,e7=.iface te pe) (h8:∃ te pe,e8=.iface te pe) (h0:(cut 32 s).getD 0 []=wSend) :
   Call Tryz.prog 39 [U s,.c (.sl 4 1 0 (cut 32 s).length)] (GLW m a e7 e8 s) 5 (.o (Event.av ⟨3,numAt (cut 32 s) 1,0,0,⟨0,numAt (cut 32 s) 2,numAt (cut 32 s) 3,numAt (cut 32 s) 4,numAt (cut 32 s) 5,numAt (cut 32 s) 6,0⟩⟩)) (GLW m a e7 e8 s) 5:=by
 have hs:s.length≤1000000:=by omega
 have hp:∀ i,((cut 32 s).getD i []).length≤1000000:=fun i=>Nat.le_trans (cut_piece2 32 s i) (by omega)
 have hcl:=cut_len 32 s
 have c1:=lineNumber_row (cut 32 s) 1 1 rfl (by omega) (by omega) hp
 have c2:=lineNumber_row (cut 32 s) 2 2 rfl (by omega) (by omega) hp
 have c3:=lineNumber_row (cut 32 s) 3 3 rfl (by omega) (by omega) hp
 have c4:=lineNumber_row (cut 32 s) 4 4 rfl (by omega) (by omega) hp
 have c5:=lineNumber_row (cut 32 s) 5 5 rfl (by omega) (by omega) hp
 have c6:=lineNumber_row (cut 32 s) 6 6 rfl (by omega) (by omega) hp
 have h0:(cut 32 s).getD 0 []=[115,101,110,100]:=h0
 unfold GLW
 refine vO tok Tryz.func39 rfl rfl Tryz.ntmps39 Tryz.results39 rfl (by decide) (fun cx hnt hk0=>?_)

 repeat' (first|refine vS fun K hK=>?_|refine hK _ ?_;clear hK K|refine hX ?_;clear hX hY X Y|refine hY ?_;clear hX hY X Y|refine vB ?_|((first|refine vR tok (by rw [hnt];rfl) ?_|refine vC fun X Y hX hY=>?_|refine vT ?_|refine vF [] ?_|refine runS_c [4] (c1) rfl ?_ ?_ ?_|refine runS_c [4] (c2) rfl ?_ ?_ ?_|refine runS_c [4] (c3) rfl ?_ ?_ ?_|refine runS_c [4] (c4) rfl ?_ ?_ ?_|refine runS_c [4] (c5) rfl ?_ ?_ ?_|(refine runS_c [4] (c6) rfl ?_ ?_ ?_))<;>(try simp only [go_sem,qa,qb,qc,qd,qe,qf,qg,qh,qi,qj,qk,ql,qm,qn,qo,qp,qq,qr,qs,reduceIte,reduceCtorEq,h0,Packet.none]))|refine aL ?_ fun hp=>?_|clear hK K)
 all_goals first|(first|omega|(unfold Big;omega)|(rw [u8m];omega)|(rw [u8M];omega)|(simp only [dA,dB,dC];omega))
theorem lineEvent_Get (s:Str) (m:Int) (a:Addr) (e7 e8:Value) (hs:s.length≤600) (h7:∃ te pe,e7=.iface te pe) (h8:∃ te pe,e8=.iface te pe) (h0:(cut 32 s).getD 0 []=wGet) :
   Call Tryz.prog 39 [U s,.c (.sl 4 1 0 (cut 32 s).length)] (GLW m a e7 e8 s) 5 (.o (Event.av ⟨4,numAt (cut 32 s) 1,numAt (cut 32 s) 2,0,readP (lineTail s)⟩)) (GLW m a e7 e8 s) 5:=by
 have hs:s.length≤1000000:=by omega
 have hp:∀ i,((cut 32 s).getD i []).length≤1000000:=fun i=>Nat.le_trans (cut_piece2 32 s i) (by omega)
 have hcl:=cut_len 32 s
 have c1:=lineNumber_row (cut 32 s) 1 1 rfl (by omega) (by omega) hp
 have c2:=lineNumber_row (cut 32 s) 2 2 rfl (by omega) (by omega) hp
 have cG:=linePacket_ok s m a e7 e8 hs h7 h8 h0
 have h0:(cut 32 s).getD 0 []=[103,101,116]:=h0
 unfold GLW
 refine vO tok Tryz.func39 rfl rfl Tryz.ntmps39 Tryz.results39 rfl (by decide) (fun cx hnt hk0=>?_)

 repeat' (first|refine vS fun K hK=>?_|refine hK _ ?_;clear hK K|refine hX ?_;clear hX hY X Y|refine hY ?_;clear hX hY X Y|refine vB ?_|((first|refine vR tok (by rw [hnt];rfl) ?_|refine vC fun X Y hX hY=>?_|refine vK ?_|refine vT ?_|refine vF [] ?_|refine runS_c [4] (c1) rfl ?_ ?_ ?_|refine runS_c [4] (c2) rfl ?_ ?_ ?_|(refine runS_c [0,1,2,3] (cG) rfl ?_ ?_ ?_))<;>(try simp only [go_sem,qa,qb,qc,qd,qe,qf,qg,qh,qi,qj,qk,ql,qm,qn,qo,qp,qq,qr,qs,reduceIte,reduceCtorEq,h0,Packet.none]))|refine aL ?_ fun hp=>?_|clear hK K)
 all_goals first|(first|omega|(unfold Big;omega)|(rw [u8m];omega)|(rw [u8M];omega)|(simp only [dA,dB,dC];omega))
theorem lineEvent_Tell (s:Str) (m:Int) (a:Addr) (e7 e8:Value) (hs:s.length≤600) (h7:∃ te pe,e7=.iface te pe) (h8:∃ te pe,e8=.iface te pe) (h0:(cut 32 s).getD 0 []=wTell) :
   Call Tryz.prog 39 [U s,.c (.sl 4 1 0 (cut 32 s).length)] (GLW m a e7 e8 s) 5 (.o (Event.av ⟨5,numAt (cut 32 s) 1,numAt (cut 32 s) 2,numAt (cut 32 s) 3,Packet.none⟩)) (GLW m a e7 e8 s) 5:=by
 have hs:s.length≤1000000:=by omega
 have hp:∀ i,((cut 32 s).getD i []).length≤1000000:=fun i=>Nat.le_trans (cut_piece2 32 s i) (by omega)
 have hcl:=cut_len 32 s
 have c1:=lineNumber_row (cut 32 s) 1 1 rfl (by omega) (by omega) hp
 have c2:=lineNumber_row (cut 32 s) 2 2 rfl (by omega) (by omega) hp
 have c3:=lineNumber_row (cut 32 s) 3 3 rfl (by omega) (by omega) hp
 have h0:(cut 32 s).getD 0 []=[116,101,108,108]:=h0
 unfold GLW
 refine vO tok Tryz.func39 rfl rfl Tryz.ntmps39 Tryz.results39 rfl (by decide) (fun cx hnt hk0=>?_)

 repeat' (first|refine vS fun K hK=>?_|refine hK _ ?_;clear hK K|refine hX ?_;clear hX hY X Y|refine hY ?_;clear hX hY X Y|refine vB ?_|((first|refine vR tok (by rw [hnt];rfl) ?_|refine vC fun X Y hX hY=>?_|refine vK ?_|refine vT ?_|refine vF [] ?_|refine runS_c [4] (c1) rfl ?_ ?_ ?_|refine runS_c [4] (c2) rfl ?_ ?_ ?_|(refine runS_c [4] (c3) rfl ?_ ?_ ?_))<;>(try simp only [go_sem,qa,qb,qc,qd,qe,qf,qg,qh,qi,qj,qk,ql,qm,qn,qo,qp,qq,qr,qs,reduceIte,reduceCtorEq,h0,Packet.none]))|refine aL ?_ fun hp=>?_|clear hK K)
 all_goals first|(first|omega|(unfold Big;omega)|(rw [u8m];omega)|(rw [u8M];omega)|(simp only [dA,dB,dC];omega))
theorem lineEvent_Late (s:Str) (m:Int) (a:Addr) (e7 e8:Value) (hs:s.length≤600) (h7:∃ te pe,e7=.iface te pe) (h8:∃ te pe,e8=.iface te pe) (h0:(cut 32 s).getD 0 []=wLate) :
   Call Tryz.prog 39 [U s,.c (.sl 4 1 0 (cut 32 s).length)] (GLW m a e7 e8 s) 5 (.o (Event.av ⟨6,numAt (cut 32 s) 1,numAt (cut 32 s) 2,numAt (cut 32 s) 3,Packet.none⟩)) (GLW m a e7 e8 s) 5:=by
 have hs:s.length≤1000000:=by omega
 have hp:∀ i,((cut 32 s).getD i []).length≤1000000:=fun i=>Nat.le_trans (cut_piece2 32 s i) (by omega)
 have hcl:=cut_len 32 s
 have c1:=lineNumber_row (cut 32 s) 1 1 rfl (by omega) (by omega) hp
 have c2:=lineNumber_row (cut 32 s) 2 2 rfl (by omega) (by omega) hp
 have c3:=lineNumber_row (cut 32 s) 3 3 rfl (by omega) (by omega) hp
 have h0:(cut 32 s).getD 0 []=[108,97,116,101]:=h0
 unfold GLW
 refine vO tok Tryz.func39 rfl rfl Tryz.ntmps39 Tryz.results39 rfl (by decide) (fun cx hnt hk0=>?_)

 repeat' (first|refine vS fun K hK=>?_|refine hK _ ?_;clear hK K|refine hX ?_;clear hX hY X Y|refine hY ?_;clear hX hY X Y|refine vB ?_|((first|refine vR tok (by rw [hnt];rfl) ?_|refine vC fun X Y hX hY=>?_|refine vK ?_|refine vT ?_|refine vF [] ?_|refine runS_c [4] (c1) rfl ?_ ?_ ?_|refine runS_c [4] (c2) rfl ?_ ?_ ?_|(refine runS_c [4] (c3) rfl ?_ ?_ ?_))<;>(try simp only [go_sem,qa,qb,qc,qd,qe,qf,qg,qh,qi,qj,qk,ql,qm,qn,qo,qp,qq,qr,qs,reduceIte,reduceCtorEq,h0,Packet.none]))|refine aL ?_ fun hp=>?_|clear hK K)
 all_goals first|(first|omega|(unfold Big;omega)|(rw [u8m];omega)|(rw [u8M];omega)|(simp only [dA,dB,dC];omega))
theorem lineEvent_Step (s:Str) (m:Int) (a:Addr) (e7 e8:Value) (hs:s.length≤600) (h7:∃ te pe,e7=.iface te pe) (h8:∃ te pe,e8=.iface te pe) (h0:(cut 32 s).getD 0 []=wStep) :
   Call Tryz.prog 39 [U s,.c (.sl 4 1 0 (cut 32 s).length)] (GLW m a e7 e8 s) 5 (.o (Event.av ⟨7,numAt (cut 32 s) 1,numAt (cut 32 s) 2,numAt (cut 32 s) 3,Packet.none⟩)) (GLW m a e7 e8 s) 5:=by
 have hs:s.length≤1000000:=by omega
 have hp:∀ i,((cut 32 s).getD i []).length≤1000000:=fun i=>Nat.le_trans (cut_piece2 32 s i) (by omega)
 have hcl:=cut_len 32 s
 have c1:=lineNumber_row (cut 32 s) 1 1 rfl (by omega) (by omega) hp
 have c2:=lineNumber_row (cut 32 s) 2 2 rfl (by omega) (by omega) hp
 have c3:=lineNumber_row (cut 32 s) 3 3 rfl (by omega) (by omega) hp
 have h0:(cut 32 s).getD 0 []=[115,116,101,112]:=h0
 unfold GLW
 refine vO tok Tryz.func39 rfl rfl Tryz.ntmps39 Tryz.results39 rfl (by decide) (fun cx hnt hk0=>?_)

 repeat' (first|refine vS fun K hK=>?_|refine hK _ ?_;clear hK K|refine hX ?_;clear hX hY X Y|refine hY ?_;clear hX hY X Y|refine vB ?_|((first|refine vR tok (by rw [hnt];rfl) ?_|refine vC fun X Y hX hY=>?_|refine vK ?_|refine vT ?_|refine vF [] ?_|refine runS_c [4] (c1) rfl ?_ ?_ ?_|refine runS_c [4] (c2) rfl ?_ ?_ ?_|(refine runS_c [4] (c3) rfl ?_ ?_ ?_))<;>(try simp only [go_sem,qa,qb,qc,qd,qe,qf,qg,qh,qi,qj,qk,ql,qm,qn,qo,qp,qq,qr,qs,reduceIte,reduceCtorEq,h0,Packet.none]))|refine aL ?_ fun hp=>?_|clear hK K)
 all_goals first|(first|omega|(unfold Big;omega)|(rw [u8m];omega)|(rw [u8M];omega)|(simp only [dA,dB,dC];omega))
theorem lineEvent_ok (s:Str) (m:Int) (a:Addr) (e7 e8:Value) (hs:s.length≤600) (h7:∃ te pe,e7=.iface te pe) (h8:∃ te pe,e8=.iface te pe) (h:isEv ((cut 32 s).getD 0 [])=true) :
   Call Tryz.prog 39 [U s,.c (.sl 4 1 0 (cut 32 s).length)] (GLW m a e7 e8 s) 5 (.o (iE s).av) (GLW m a e7 e8 s) 5:=by
 unfold iE
 dsimp only
 split
 · exact lineEvent_Block s m a e7 e8 hs h7 h8 ‹_›
 split
 · exact lineEvent_Know s m a e7 e8 hs h7 h8 ‹_›
 split
 · exact lineEvent_Send s m a e7 e8 hs h7 h8 ‹_›
 split
 · exact lineEvent_Get s m a e7 e8 hs h7 h8 ‹_›
 split
 · exact lineEvent_Tell s m a e7 e8 hs h7 h8 ‹_›
 split
 · exact lineEvent_Late s m a e7 e8 hs h7 h8 ‹_›
 rename_i a1 a2 a3 a4 a5 a6
 unfold isEv at h
 simp only [a1,a2,a3,a4,a5,a6,decide_false,Bool.false_or,decide_eq_true_eq] at h
 exact lineEvent_Step s m a e7 e8 hs h7 h8 h
theorem isEv_no {a:Str} (h:¬ isEv a=true):(¬ a=[98,108,111,99,107])∧(¬ a=[115,101,110,100])∧(¬ a=[107,110,111,119])∧(¬ a=[103,101,116])∧(¬ a=[116,101,108,108])∧(¬ a=[108,97,116,101])∧¬ a=[115,116,101,112]:=by
 simp only [isEv,Bool.or_eq_true,decide_eq_true_eq,not_or] at h
 exact ⟨h.1,h.2.2.1,h.2.1,h.2.2.2.1,h.2.2.2.2.1,h.2.2.2.2.2.1,h.2.2.2.2.2.2⟩
theorem lineNumber_tree (w:List Str) (k:Nat) (j:Int) (e:j=k) (hk:k≤100) (hl:w.length≤1000000) (hw:∀ i,(w.getD i []).length≤1000000):Call Tryz.prog 35 [.c (.t (strsT w)),I j] [] 0 (.o (I (numAt w k))) [] 0:=by
 subst e;exact lineNumber_ok w k hk hl hw
theorem lineEvent_panic (s:Str) (hs:s.length≤600) (h:¬ isEv ((cut 32 s).getD 0 [])=true):CallPn Tryz.prog 39 [U s,.c (.t (strsT (cut 32 s)))] (.iface 63 (.agg #[])):=by
 have hs:s.length≤1000000:=by omega
 have hp:∀ i,((cut 32 s).getD i []).length≤1000000:=fun i=>Nat.le_trans (cut_piece2 32 s i) (by omega)
 have hcl:=cut_len 32 s
 obtain ⟨h1,h2,h3,h4,h5,h6,h7⟩:=isEv_no h
 have c1:=lineNumber_tree (cut 32 s) 1 1 rfl (by omega) (by omega) hp
 have c2:=lineNumber_tree (cut 32 s) 2 2 rfl (by omega) (by omega) hp
 refine CallPn.of Tryz.func39 rfl rfl Tryz.ntmps39 rfl (fun cx hnt hk0=>?_)
 have hR:=fun (ops:List Oper) (Q:Exit→St→Prop) (s:St) (hd:dstOk cx.nt ops=true) h=>AWp.regN (P:=Tryz.prog) (c:=cx) (Q:=Q) (s:=s) (ops:=ops) (id:=12) 2 tok hd h

 repeat' (first|refine hR _ _ _ (dst_of hnt rfl) ?_|refine vS fun K hK=>?_|refine hK _ ?_;clear hK K|refine hY ?_;clear hX hY X Y|refine vB ?_|((first|refine vR tok (by rw [hnt];rfl) ?_|refine vC fun X Y hX hY=>?_|refine vK ?_|refine runS_c [] (c1) rfl ?_ ?_ ?_|(refine runS_c [] (c2) rfl ?_ ?_ ?_))<;>(try simp only [go_sem,qa,qb,qc,qd,qe,qf,qg,qh,qi,qj,qk,ql,qm,qn,qo,qp,qq,qr,qs,reduceIte,reduceCtorEq,h1,h2,h3,h4,h5,h6,h7]))|refine aL ?_ fun hp=>?_|clear hK K)
 all_goals try (first|omega|(unfold Big;omega)|(rw [u8m];omega)|(rw [u8M];omega)|(simp only [dA,dB,dC];omega))
 simp only [go_sem,qa,qb,qc,qd,qe,qf,qg,qh,qi,qj,qk,ql,qm,qn,qo,qp,qq,qr,qs,reduceIte,reduceCtorEq,List.take_succ_cons,List.take_zero,List.length_cons,List.length_nil,List.drop_succ_cons,List.drop_zero]
 skip
 refine AWpI.panic rfl rfl rfl rfl ?_
 simp only [go_sem,qa,qb,qc,qd,qe,qf,qg,qh,qi,qj,qk,ql,qm,qn,qo,qp,qq,qr,qs,reduceIte,reduceCtorEq,panQ]
theorem AWpI.assertNil {P:Program} {ti:Nat→Option TI} {c:Ctx} {Q:Exit→St→Prop} {s:St} {ops:List Oper} {n:Nat} (hT:TOk P ti) {o:Oper} {x:Operand} {xt t:TypeId} {tx:TI} {fs:List (Nat × Nat)} (hd:dstOk c.nt ops=true) (hn:ops[n]? = some o) (hg:o.guard=none) (ho:o.op=.typeAssert x xt t true) (hx:evO s x=some (.o (.c (.t (.v .nilIface))))) (htx:ti t=some tx) (hk:tx.k=.st fs) (hz:tx.zero=[])
   (h:AWpI P c ops (n+1) Q (s.put o.dst (.tup [.g [],.c (.t (.v (.bool false)))]))):AWpI P c ops n Q s:=by
 refine AWpI.val (H':=s.h) (nx':=s.nx) hd hn hg (fun a w A ρ hr=>?_) h
 have h1:a.eval x=.nilIface:=(evO_sound hr hx).1
 obtain ⟨_,op,_,_,_,_⟩:=o
 dsimp only at ho;subst ho
 obtain ⟨dd,hd,hu⟩:=run_und (hT _ _ htx) w
 rw [hk] at hd
 cases dd<;>simp only [kindOf,reduceCtorEq] at hd
 obtain ⟨z,hz1,hz2⟩:=run_zero (hT _ _ htx) w
 have hz3:z=.agg #[]:=by
   rw [hz] at hz1
   cases z<;>simp [Value.cells] at hz1 ⊢
   exact hz1
 refine ⟨.tuple #[.agg #[],.bool false],w,A,ρ,?_,hr,#[.agg #[],.bool false],rfl,⟨#[],rfl,trivial⟩,⟨rfl,rfl⟩,trivial⟩
 simp [execOp,Instr.typeAssert,hu,h1,hz2,hz3]
theorem line1_keep:DKeep Tryz.prog 33:=by
 refine DKeep.of Tryz.func33 rfl Tryz.ntmps33 Tryz.results33 rfl rfl rfl (by decide) (by decide) (fun cx hnt hk0=>?_)
 refine AWpI.assertNil tok (dst_of hnt rfl) rfl rfl rfl rfl rfl rfl rfl ?_
 refine AWpI.rest tok (dst_of hnt rfl) ?_
 simp only [go_sem,qa,qb,qc,qd,qe,qf,qg,qh,qi,qj,qk,ql,qm,qn,qo,qp,qq,qr,qs,reduceIte,reduceCtorEq,List.drop_succ_cons,List.drop_zero]

 repeat' (first|refine vS fun K hK=>?_|refine hK _ ?_;clear hK K|refine hY ?_;clear hX hY X Y|((first|refine vR tok (by rw [hnt];rfl) ?_|refine vC fun X Y hX hY=>?_|(refine vK ?_))<;>(try simp only [go_sem,qa,qb,qc,qd,qe,qf,qg,qh,qi,qj,qk,ql,qm,qn,qo,qp,qq,qr,qs,reduceIte,reduceCtorEq])))
end Go.Hw
namespace Go.Hw
open Go.Proofs
def Bank.takeB (b:Bank) (kind src sum:Int):Bool:=b.ok && (In kind 1 2 && (In src 1 3 && (decide (0≤sum) && b.awayB kind src sum)))
def Bank.giveB (b:Bank) (kind dst sum:Int):Bool:=b.ok && (In kind 1 2 && (In dst 1 3 && (decide (0≤sum) && (decide (sum≤30) && b.backB kind dst sum))))
theorem In12_no {kind:Int} (h1:¬ kind=1) (h2:¬ kind=2):In kind 1 2=false:=by
 cases h:In kind 1 2 with
 | false=>rfl
 | true=>rw [In_iff] at h;omega
theorem iBankAway_no (b:Bank) (kind src sum:Int) (h1:b.own.length≤1000) (h2:b.notes.length≤1000) (h3:b.locked < 1099511627776) (h:b.takeB kind src sum=false) :
   Call Tryz.prog 92 [b.av,I kind,I src,I sum] [] 0 (.tup [.g (bankA Bank.none 0),BB false]) (bankH Bank.none 0) 2:=by
 by_cases hg:b.ok=true∧In kind 1 2=true∧In src 1 3=true∧0≤sum
 · obtain ⟨gb,gk,gs,g0⟩:=hg
   obtain ⟨q1,q2,q3,q4,q5⟩:=bank_ok gb
   have q6:=parts_len q1
   have q7:=parts_len q2
   have gA:¬ sum≤b.at kind src:=by
     simp only [Bank.takeB,gb,gk,gs,Bool.true_and,decide_eq_true g0] at h
     simpa [Bank.awayB] using h
   have gs':=gs
   rw [In_iff] at gk gs'
   have s1:=some_mE (l:=b.own) (k:=src) (by omega) (by omega)
   have s2:=some_mE (l:=b.notes) (k:=src) (by omega) (by omega)
   have l1:=lk_mE (l:=b.own) (k:=src) (by omega) (by omega)
   have l2:=lk_mE (l:=b.notes) (k:=src) (by omega) (by omega)
   by_cases hd:kind=1
   · have gA:¬ sum≤b.own.getD (src - 1).toNat 0:=by simpa only [Bank.at,Bank.list,if_pos hd] using gA
     refine vO tok Tryz.func92 rfl rfl Tryz.ntmps92 Tryz.results92 rfl (by decide) (fun cx hnt hk0=>?_)
     repeat' (first|refine vS fun K hK=>?_|refine hK _ ?_;clear hK K|refine hX ?_;clear hX hY X Y|refine hY ?_;clear hX hY X Y|((first|refine vR tok (by rw [hnt];rfl) ?_|refine vC fun X Y hX hY=>?_|refine vK ?_|refine vT ?_|refine vF [] ?_|(refine runS_c [] (iBankOk_ok b (by omega) (by omega) h3) rfl ?_ ?_ ?_)|refine runS_c [] (userOk_ok _) rfl ?_ ?_ ?_|refine runS_c [] (coinsOf_own kind hd) rfl ?_ ?_ ?_|refine runS_c [] (ledgerOf_ok b q6 q7) rfl ?_ ?_ ?_|refine runS_c [2,3] (ownCoins_ok _) rfl ?_ ?_ ?_|((first|apply gR|apply gC)<;>intro hq<;>(try simp only [nT,nF,n1,n0] at hq)<;>(have hb:=hq)<;>(try simp only [dT,dF,eT,eF] at hb)<;>first|(exfalso;omega)|((try simp only [hq]);clear hq)))<;>(try simp only [go_sem,qa,qb,qc,qd,qe,qf,qg,qh,qi,qj,qk,ql,qm,qn,qo,qp,qq,qr,qs,reduceIte,reduceCtorEq,gb,gs,s1,l1,Bank.none])))
     all_goals try omega
   · have gA:¬ sum≤b.notes.getD (src - 1).toNat 0:=by simpa only [Bank.at,Bank.list,if_neg hd] using gA
     refine vO tok Tryz.func92 rfl rfl Tryz.ntmps92 Tryz.results92 rfl (by decide) (fun cx hnt hk0=>?_)
     repeat' (first|refine vS fun K hK=>?_|refine hK _ ?_;clear hK K|refine hX ?_;clear hX hY X Y|refine hY ?_;clear hX hY X Y|((first|refine vR tok (by rw [hnt];rfl) ?_|refine vC fun X Y hX hY=>?_|refine vK ?_|refine vT ?_|refine vF [] ?_|(refine runS_c [] (iBankOk_ok b (by omega) (by omega) h3) rfl ?_ ?_ ?_)|refine runS_c [] (userOk_ok _) rfl ?_ ?_ ?_|(refine runS_c [] (coinsOf_note kind (by omega)) rfl ?_ ?_ ?_)|refine runS_c [] (ledgerOf_ok b q6 q7) rfl ?_ ?_ ?_|refine runS_c [2,3] (noteCoins_ok _) rfl ?_ ?_ ?_|((first|apply gR|apply gC)<;>intro hq<;>(try simp only [nT,nF,n1,n0] at hq)<;>(have hb:=hq)<;>(try simp only [dT,dF,eT,eF] at hb)<;>first|(exfalso;omega)|((try simp only [hq]);clear hq)))<;>(try simp only [go_sem,qa,qb,qc,qd,qe,qf,qg,qh,qi,qj,qk,ql,qm,qn,qo,qp,qq,qr,qs,reduceIte,reduceCtorEq,gb,gs,s2,l2,Bank.none])))
     all_goals try omega
 · by_cases hk1:kind=1
   · have gk:In kind 1 2=true:=by rw [In_iff];omega
     refine vO tok Tryz.func92 rfl rfl Tryz.ntmps92 Tryz.results92 rfl (by decide) (fun cx hnt hk0=>?_)
     repeat' (first|refine vS fun K hK=>?_|refine hK _ ?_;clear hK K|refine hX ?_;clear hX hY X Y|refine hY ?_;clear hX hY X Y|((first|refine vR tok (by rw [hnt];rfl) ?_|refine vC fun X Y hX hY=>?_|refine vK ?_|refine vT ?_|refine vF [] ?_|(refine runS_c [] (iBankOk_ok b (by omega) (by omega) h3) rfl ?_ ?_ ?_)|refine runS_c [] (userOk_ok _) rfl ?_ ?_ ?_|refine runS_c [] (coinsOf_own kind hk1) rfl ?_ ?_ ?_|((first|apply gR|apply gC)<;>intro hq<;>(try simp only [nT,nF,n1,n0] at hq)<;>(have hb:=hq)<;>(try simp only [dT,dF,eT,eF] at hb)<;>first|(exfalso;omega)|((try simp only [hq]);clear hq)))<;>(try simp only [go_sem,qa,qb,qc,qd,qe,qf,qg,qh,qi,qj,qk,ql,qm,qn,qo,qp,qq,qr,qs,reduceIte,reduceCtorEq,Bank.none])))
     all_goals exact absurd ⟨by assumption,gk,by assumption,by omega⟩ hg
   · by_cases hk2:kind=2
     · have gk:In kind 1 2=true:=by rw [In_iff];omega
       refine vO tok Tryz.func92 rfl rfl Tryz.ntmps92 Tryz.results92 rfl (by decide) (fun cx hnt hk0=>?_)
       repeat' (first|refine vS fun K hK=>?_|refine hK _ ?_;clear hK K|refine hX ?_;clear hX hY X Y|refine hY ?_;clear hX hY X Y|((first|refine vR tok (by rw [hnt];rfl) ?_|refine vC fun X Y hX hY=>?_|refine vK ?_|refine vT ?_|refine vF [] ?_|(refine runS_c [] (iBankOk_ok b (by omega) (by omega) h3) rfl ?_ ?_ ?_)|refine runS_c [] (userOk_ok _) rfl ?_ ?_ ?_|refine runS_c [] (coinsOf_note kind hk2) rfl ?_ ?_ ?_|((first|apply gR|apply gC)<;>intro hq<;>(try simp only [nT,nF,n1,n0] at hq)<;>(have hb:=hq)<;>(try simp only [dT,dF,eT,eF] at hb)<;>first|(exfalso;omega)|((try simp only [hq]);clear hq)))<;>(try simp only [go_sem,qa,qb,qc,qd,qe,qf,qg,qh,qi,qj,qk,ql,qm,qn,qo,qp,qq,qr,qs,reduceIte,reduceCtorEq,Bank.none])))
       all_goals exact absurd ⟨by assumption,gk,by assumption,by omega⟩ hg
     · refine vO tok Tryz.func92 rfl rfl Tryz.ntmps92 Tryz.results92 rfl (by decide) (fun cx hnt hk0=>?_)
       repeat' (first|refine vS fun K hK=>?_|refine hK _ ?_;clear hK K|refine hX ?_;clear hX hY X Y|((first|refine vR tok (by rw [hnt];rfl) ?_|refine vC fun X Y hX hY=>?_|refine vT ?_|refine vF [] ?_|(refine runS_c [] (coinsOf_none kind (In12_no hk1 hk2)) rfl ?_ ?_ ?_))<;>(try simp only [go_sem,qa,qb,qc,qd,qe,qf,qg,qh,qi,qj,qk,ql,qm,qn,qo,qp,qq,qr,qs,reduceIte,reduceCtorEq,Bank.none])))
theorem iBankAway_yes (b:Bank) (kind src sum:Int) (h1:b.own.length≤1000) (h2:b.notes.length≤1000) (h3:b.locked < 1099511627776) (h:b.takeB kind src sum=true) :
   Call Tryz.prog 92 [b.av,I kind,I src,I sum] [] 0 (.tup [.g (bankA (b.awayD kind src sum) 0),BB true]) (bankH (b.awayD kind src sum) 0) 2:=by
 simp only [Bank.takeB,Bool.and_eq_true,decide_eq_true_eq] at h
 obtain ⟨gb,gk,gs,g0,gA⟩:=h
 have gA:sum≤b.at kind src:=by simpa [Bank.awayB] using gA
 obtain ⟨q1,q2,q3,q4,q5⟩:=bank_ok gb
 have q6:=parts_len q1
 have q7:=parts_len q2
 have gs':=gs
 rw [In_iff] at gk gs'
 have s1:=some_mE (l:=b.own) (k:=src) (by omega) (by omega)
 have s2:=some_mE (l:=b.notes) (k:=src) (by omega) (by omega)
 have l1:=lk_mE (l:=b.own) (k:=src) (by omega) (by omega)
 have l2:=lk_mE (l:=b.notes) (k:=src) (by omega) (by omega)
 have u1:=fun v=>upd_mE (l:=b.own) (k:=src) (v:=v) (by omega) (by omega)
 have u2:=fun v=>upd_mE (l:=b.notes) (k:=src) (v:=v) (by omega) (by omega)
 have p1:=parts_get q1 (src - 1).toNat
 have p2:=parts_get q2 (src - 1).toNat
 have p3:=parts_all q1
 have l3:(b.own.set (src - 1).toNat (b.own.getD (src - 1).toNat 0 - sum)).length=3:=by rw [List.length_set,q6]
 have l4:(b.notes.set (src - 1).toNat (b.notes.getD (src - 1).toNat 0 - sum)).length=3:=by rw [List.length_set,q7]
 by_cases hd:kind=1
 · have gA:sum≤b.own.getD (src - 1).toNat 0:=by simpa only [Bank.at,Bank.list,if_pos hd] using gA
   refine vO tok Tryz.func92 rfl rfl Tryz.ntmps92 Tryz.results92 rfl (by decide) (fun cx hnt hk0=>?_)
   repeat' (first|refine vS fun K hK=>?_|refine hK _ ?_;clear hK K|refine hX ?_;clear hX hY X Y|refine hY ?_;clear hX hY X Y|((first|refine vR tok (by rw [hnt];rfl) ?_|refine vC fun X Y hX hY=>?_|refine vK ?_|refine vT ?_|refine vF [] ?_|(refine runS_c [] (iBankOk_ok b (by omega) (by omega) h3) rfl ?_ ?_ ?_)|refine runS_c [] (userOk_ok _) rfl ?_ ?_ ?_|refine runS_c [] (coinsOf_own kind hd) rfl ?_ ?_ ?_|refine runS_c [] (ledgerOf_ok b q6 q7) rfl ?_ ?_ ?_|refine runS_c [2,3] (ownCoins_ok _) rfl ?_ ?_ ?_|(refine runS_c [2,3] (ledgerBank_ok ⟨b.own.set (src - 1).toNat (b.own.getD (src - 1).toNat 0 - sum),b.notes,b.locked+sum⟩ l3 q7) rfl ?_ ?_ ?_)|((first|apply gR|apply gC)<;>intro hq<;>(try simp only [nT,nF,n1,n0] at hq)<;>(have hb:=hq)<;>(try simp only [dT,dF,eT,eF] at hb)<;>first|(exfalso;omega)|((try simp only [hq]);clear hq)))<;>(try simp only [go_sem,qa,qb,qc,qd,qe,qf,qg,qh,qi,qj,qk,ql,qm,qn,qo,qp,qq,qr,qs,reduceIte,reduceCtorEq,gb,gs,s1,l1,u1,Bank.awayD,Bank.dec,Bank.put,Bank.list,Bank.at,if_pos hd]))|refine Fits.of ?_ ?_|refine And.intro ?_ ?_|clear hK K)
   all_goals try omega
 · have gA:sum≤b.notes.getD (src - 1).toNat 0:=by simpa only [Bank.at,Bank.list,if_neg hd] using gA
   refine vO tok Tryz.func92 rfl rfl Tryz.ntmps92 Tryz.results92 rfl (by decide) (fun cx hnt hk0=>?_)
   repeat' (first|refine vS fun K hK=>?_|refine hK _ ?_;clear hK K|refine hY ?_;clear hX hY X Y|((first|refine vR tok (by rw [hnt];rfl) ?_|refine vC fun X Y hX hY=>?_|refine vK ?_|refine vT ?_|refine vF [] ?_|(refine runS_c [] (iBankOk_ok b (by omega) (by omega) h3) rfl ?_ ?_ ?_)|refine runS_c [] (userOk_ok _) rfl ?_ ?_ ?_|(refine runS_c [] (coinsOf_note kind (by omega)) rfl ?_ ?_ ?_)|refine runS_c [] (ledgerOf_ok b q6 q7) rfl ?_ ?_ ?_|refine runS_c [2,3] (noteCoins_ok _) rfl ?_ ?_ ?_|(refine runS_c [2,3] (ledgerBank_ok ⟨b.own,b.notes.set (src - 1).toNat (b.notes.getD (src - 1).toNat 0 - sum),b.locked⟩ q6 l4) rfl ?_ ?_ ?_)|((first|apply gR|apply gC)<;>intro hq<;>(try simp only [nT,nF,n1,n0] at hq)<;>(have hb:=hq)<;>(try simp only [dT,dF,eT,eF] at hb)<;>first|(exfalso;omega)|((try simp only [hq]);clear hq)))<;>(try simp only [go_sem,qa,qb,qc,qd,qe,qf,qg,qh,qi,qj,qk,ql,qm,qn,qo,qp,qq,qr,qs,reduceIte,reduceCtorEq,gb,gs,s2,l2,u2,Bank.awayD,Bank.dec,Bank.put,Bank.list,Bank.at,if_neg hd]))|refine Fits.of ?_ ?_|refine And.intro ?_ ?_|clear hK K)
   all_goals try omega
theorem iBankBack_no (b:Bank) (kind dst sum:Int) (h1:b.own.length≤1000) (h2:b.notes.length≤1000) (h3:b.locked < 1099511627776) (h:b.giveB kind dst sum=false) :
   Call Tryz.prog 136 [b.av,I kind,I dst,I sum] [] 0 (.tup [.g (bankA Bank.none 0),BB false]) (bankH Bank.none 0) 2:=by
 by_cases hg:b.ok=true∧In kind 1 2=true∧In dst 1 3=true∧0≤sum∧sum≤30
 · obtain ⟨gb,gk,gs,g0,g30⟩:=hg
   obtain ⟨q1,q2,q3,q4,q5⟩:=bank_ok gb
   have q6:=parts_len q1
   have q7:=parts_len q2
   have p4:=parts_all q2
   have gA:(kind=1∧b.locked < sum) ∨ (kind=2∧30 < isum b.notes+sum):=by
     simp only [Bank.giveB,gb,gk,gs,Bool.true_and,decide_eq_true g0,decide_eq_true g30] at h
     unfold Bank.backB at h
     rw [Bool.not_eq_false',Bool.or_eq_true,Bool.and_eq_true,Bool.and_eq_true] at h
     rcases h with ⟨a,b⟩|⟨a,b⟩
     · exact .inl ⟨of_decide_eq_true a,of_decide_eq_true b⟩
     · exact .inr ⟨of_decide_eq_true a,of_decide_eq_true b⟩
   have gs':=gs
   rw [In_iff] at gk gs'
   by_cases hd:kind=1
   · have gA:b.locked < sum:=by omega
     refine vO tok Tryz.func136 rfl rfl Tryz.ntmps136 Tryz.results136 rfl (by decide) (fun cx hnt hk0=>?_)
     repeat' (first|refine vS fun K hK=>?_|refine hK _ ?_;clear hK K|refine hX ?_;clear hX hY X Y|refine hY ?_;clear hX hY X Y|((first|refine vR tok (by rw [hnt];rfl) ?_|refine vC fun X Y hX hY=>?_|refine vK ?_|refine vT ?_|refine vF [] ?_|(refine runS_c [] (iBankOk_ok b (by omega) (by omega) h3) rfl ?_ ?_ ?_)|refine runS_c [] (userOk_ok _) rfl ?_ ?_ ?_|refine runS_c [] (coinsOf_own kind hd) rfl ?_ ?_ ?_|refine runS_c [] (ledgerOf_ok b q6 q7) rfl ?_ ?_ ?_|((first|apply gR|apply gC)<;>intro hq<;>(try simp only [nT,nF,n1,n0] at hq)<;>(have hb:=hq)<;>(try simp only [dT,dF,eT,eF] at hb)<;>first|(exfalso;omega)|((try simp only [hq]);clear hq)))<;>(try simp only [go_sem,qa,qb,qc,qd,qe,qf,qg,qh,qi,qj,qk,ql,qm,qn,qo,qp,qq,qr,qs,reduceIte,reduceCtorEq,gb,gs,Bank.none])))
     all_goals try omega
   · have gA:30 < isum b.notes+sum:=by omega
     refine vO tok Tryz.func136 rfl rfl Tryz.ntmps136 Tryz.results136 rfl (by decide) (fun cx hnt hk0=>?_)
     repeat' (first|refine vS fun K hK=>?_|refine hK _ ?_;clear hK K|refine hX ?_;clear hX hY X Y|refine hY ?_;clear hX hY X Y|((first|refine vR tok (by rw [hnt];rfl) ?_|refine vC fun X Y hX hY=>?_|refine vK ?_|refine vT ?_|refine vF [] ?_|(refine runS_c [] (iBankOk_ok b (by omega) (by omega) h3) rfl ?_ ?_ ?_)|refine runS_c [] (userOk_ok _) rfl ?_ ?_ ?_|(refine runS_c [] (coinsOf_note kind (by omega)) rfl ?_ ?_ ?_)|refine runS_c [] (ledgerOf_ok b q6 q7) rfl ?_ ?_ ?_|(refine runS_c [] (amountTotal_ok b.notes (by omega)) rfl ?_ ?_ ?_)|((first|apply gR|apply gC)<;>intro hq<;>(try simp only [nT,nF,n1,n0] at hq)<;>(have hb:=hq)<;>(try simp only [dT,dF,eT,eF] at hb)<;>first|(exfalso;omega)|((try simp only [hq]);clear hq)))<;>(try simp only [go_sem,qa,qb,qc,qd,qe,qf,qg,qh,qi,qj,qk,ql,qm,qn,qo,qp,qq,qr,qs,reduceIte,reduceCtorEq,gb,gs,q2,if_true,Bank.none]))|refine Fits.of ?_ ?_|refine And.intro ?_ ?_|clear hK K)
     all_goals try omega
 · by_cases hk1:kind=1
   · have gk:In kind 1 2=true:=by rw [In_iff];omega
     refine vO tok Tryz.func136 rfl rfl Tryz.ntmps136 Tryz.results136 rfl (by decide) (fun cx hnt hk0=>?_)
     repeat' (first|refine vS fun K hK=>?_|refine hK _ ?_;clear hK K|refine hX ?_;clear hX hY X Y|refine hY ?_;clear hX hY X Y|((first|refine vR tok (by rw [hnt];rfl) ?_|refine vC fun X Y hX hY=>?_|refine vK ?_|refine vT ?_|refine vF [] ?_|(refine runS_c [] (iBankOk_ok b (by omega) (by omega) h3) rfl ?_ ?_ ?_)|refine runS_c [] (userOk_ok _) rfl ?_ ?_ ?_|refine runS_c [] (coinsOf_own kind hk1) rfl ?_ ?_ ?_|((first|apply gR|apply gC)<;>intro hq<;>(try simp only [nT,nF,n1,n0] at hq)<;>(have hb:=hq)<;>(try simp only [dT,dF,eT,eF] at hb)<;>first|(exfalso;omega)|((try simp only [hq]);clear hq)))<;>(try simp only [go_sem,qa,qb,qc,qd,qe,qf,qg,qh,qi,qj,qk,ql,qm,qn,qo,qp,qq,qr,qs,reduceIte,reduceCtorEq,Bank.none])))
     all_goals exact absurd ⟨by assumption,gk,by assumption,by omega,by omega⟩ hg
   · by_cases hk2:kind=2
     · have gk:In kind 1 2=true:=by rw [In_iff];omega
       refine vO tok Tryz.func136 rfl rfl Tryz.ntmps136 Tryz.results136 rfl (by decide) (fun cx hnt hk0=>?_)
       repeat' (first|refine vS fun K hK=>?_|refine hK _ ?_;clear hK K|refine hX ?_;clear hX hY X Y|refine hY ?_;clear hX hY X Y|((first|refine vR tok (by rw [hnt];rfl) ?_|refine vC fun X Y hX hY=>?_|refine vK ?_|refine vT ?_|refine vF [] ?_|(refine runS_c [] (iBankOk_ok b (by omega) (by omega) h3) rfl ?_ ?_ ?_)|refine runS_c [] (userOk_ok _) rfl ?_ ?_ ?_|refine runS_c [] (coinsOf_note kind hk2) rfl ?_ ?_ ?_|((first|apply gR|apply gC)<;>intro hq<;>(try simp only [nT,nF,n1,n0] at hq)<;>(have hb:=hq)<;>(try simp only [dT,dF,eT,eF] at hb)<;>first|(exfalso;omega)|((try simp only [hq]);clear hq)))<;>(try simp only [go_sem,qa,qb,qc,qd,qe,qf,qg,qh,qi,qj,qk,ql,qm,qn,qo,qp,qq,qr,qs,reduceIte,reduceCtorEq,Bank.none])))
       all_goals exact absurd ⟨by assumption,gk,by assumption,by omega,by omega⟩ hg
     · refine vO tok Tryz.func136 rfl rfl Tryz.ntmps136 Tryz.results136 rfl (by decide) (fun cx hnt hk0=>?_)
       repeat' (first|refine vS fun K hK=>?_|refine hK _ ?_;clear hK K|refine hX ?_;clear hX hY X Y|((first|refine vR tok (by rw [hnt];rfl) ?_|refine vC fun X Y hX hY=>?_|refine vT ?_|refine vF [] ?_|(refine runS_c [] (coinsOf_none kind (In12_no hk1 hk2)) rfl ?_ ?_ ?_))<;>(try simp only [go_sem,qa,qb,qc,qd,qe,qf,qg,qh,qi,qj,qk,ql,qm,qn,qo,qp,qq,qr,qs,reduceIte,reduceCtorEq,Bank.none])))
theorem iBankBack_yes (b:Bank) (kind dst sum:Int) (h1:b.own.length≤1000) (h2:b.notes.length≤1000) (h3:b.locked < 1099511627776) (h:b.giveB kind dst sum=true) :
   Call Tryz.prog 136 [b.av,I kind,I dst,I sum] [] 0 (.tup [.g (bankA (b.backD kind dst sum) 0),BB true]) (bankH (b.backD kind dst sum) 0) 2:=by
 simp only [Bank.giveB,Bool.and_eq_true,decide_eq_true_eq] at h
 obtain ⟨gb,gk,gs,g0,g30,gA⟩:=h
 have gA:¬ (kind=1∧b.locked < sum)∧¬ (kind=2∧30 < isum b.notes+sum):=by
   simp [Bank.backB] at gA
   exact ⟨by omega,by omega⟩
 obtain ⟨q1,q2,q3,q4,q5⟩:=bank_ok gb
 have q6:=parts_len q1
 have q7:=parts_len q2
 have p4:=parts_all q2
 have gs':=gs
 rw [In_iff] at gk gs'
 have s1:=some_mE (l:=b.own) (k:=dst) (by omega) (by omega)
 have s2:=some_mE (l:=b.notes) (k:=dst) (by omega) (by omega)
 have l1:=lk_mE (l:=b.own) (k:=dst) (by omega) (by omega)
 have l2:=lk_mE (l:=b.notes) (k:=dst) (by omega) (by omega)
 have u1:=fun v=>upd_mE (l:=b.own) (k:=dst) (v:=v) (by omega) (by omega)
 have u2:=fun v=>upd_mE (l:=b.notes) (k:=dst) (v:=v) (by omega) (by omega)
 have p1:=parts_get q1 (dst - 1).toNat
 have p2:=parts_get q2 (dst - 1).toNat
 have p3:=parts_all q1
 have l3:(b.own.set (dst - 1).toNat (b.own.getD (dst - 1).toNat 0+sum)).length=3:=by rw [List.length_set,q6]
 have l4:(b.notes.set (dst - 1).toNat (b.notes.getD (dst - 1).toNat 0+sum)).length=3:=by rw [List.length_set,q7]
 by_cases hd:kind=1
 · have gA:¬ b.locked < sum:=fun a=>gA.1 ⟨hd,a⟩
   refine vO tok Tryz.func136 rfl rfl Tryz.ntmps136 Tryz.results136 rfl (by decide) (fun cx hnt hk0=>?_)
   repeat' (first|refine vS fun K hK=>?_|refine hK _ ?_;clear hK K|refine hX ?_;clear hX hY X Y|refine hY ?_;clear hX hY X Y|((first|refine vR tok (by rw [hnt];rfl) ?_|refine vC fun X Y hX hY=>?_|refine vK ?_|refine vT ?_|refine vF [] ?_|(refine runS_c [] (iBankOk_ok b (by omega) (by omega) h3) rfl ?_ ?_ ?_)|refine runS_c [] (userOk_ok _) rfl ?_ ?_ ?_|refine runS_c [] (coinsOf_own kind hd) rfl ?_ ?_ ?_|refine runS_c [] (ledgerOf_ok b q6 q7) rfl ?_ ?_ ?_|refine runS_c [2,3] (ownCoins_ok _) rfl ?_ ?_ ?_|(refine runS_c [2,3] (ledgerBank_ok ⟨b.own.set (dst - 1).toNat (b.own.getD (dst - 1).toNat 0+sum),b.notes,b.locked - sum⟩ l3 q7) rfl ?_ ?_ ?_)|((first|apply gR|apply gC)<;>intro hq<;>(try simp only [nT,nF,n1,n0] at hq)<;>(have hb:=hq)<;>(try simp only [dT,dF,eT,eF] at hb)<;>first|(exfalso;omega)|((try simp only [hq]);clear hq)))<;>(try simp only [go_sem,qa,qb,qc,qd,qe,qf,qg,qh,qi,qj,qk,ql,qm,qn,qo,qp,qq,qr,qs,reduceIte,reduceCtorEq,gb,gs,s1,l1,u1,Bank.backD,Bank.add,Bank.put,Bank.list,Bank.at,if_pos hd]))|refine Fits.of ?_ ?_|refine And.intro ?_ ?_|clear hK K)
   all_goals try omega
 · have gA:¬ 30 < isum b.notes+sum:=fun a=>gA.2 ⟨by omega,a⟩
   refine vO tok Tryz.func136 rfl rfl Tryz.ntmps136 Tryz.results136 rfl (by decide) (fun cx hnt hk0=>?_)
   repeat' (first|refine vS fun K hK=>?_|refine hK _ ?_;clear hK K|refine hY ?_;clear hX hY X Y|((first|refine vR tok (by rw [hnt];rfl) ?_|refine vC fun X Y hX hY=>?_|refine vK ?_|refine vT ?_|refine vF [] ?_|(refine runS_c [] (iBankOk_ok b (by omega) (by omega) h3) rfl ?_ ?_ ?_)|refine runS_c [] (userOk_ok _) rfl ?_ ?_ ?_|(refine runS_c [] (coinsOf_note kind (by omega)) rfl ?_ ?_ ?_)|refine runS_c [] (ledgerOf_ok b q6 q7) rfl ?_ ?_ ?_|refine runS_c [2,3] (noteCoins_ok _) rfl ?_ ?_ ?_|(refine runS_c [] (amountTotal_ok b.notes (by omega)) rfl ?_ ?_ ?_)|(refine runS_c [2,3] (ledgerBank_ok ⟨b.own,b.notes.set (dst - 1).toNat (b.notes.getD (dst - 1).toNat 0+sum),b.locked⟩ q6 l4) rfl ?_ ?_ ?_)|((first|apply gR|apply gC)<;>intro hq<;>(try simp only [nT,nF,n1,n0] at hq)<;>(have hb:=hq)<;>(try simp only [dT,dF,eT,eF] at hb)<;>first|(exfalso;omega)|((try simp only [hq]);clear hq)))<;>(try simp only [go_sem,qa,qb,qc,qd,qe,qf,qg,qh,qi,qj,qk,ql,qm,qn,qo,qp,qq,qr,qs,reduceIte,reduceCtorEq,gb,gs,s2,l2,u2,q2,if_true,Bank.backD,Bank.add,Bank.put,Bank.list,Bank.at,if_neg hd]))|refine Fits.of ?_ ?_|refine And.intro ?_ ?_|clear hK K)
   all_goals try omega
end Go.Hw
