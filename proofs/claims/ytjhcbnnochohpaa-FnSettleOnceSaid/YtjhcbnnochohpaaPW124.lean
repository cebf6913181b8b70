/- What is proved here: parts of the walk of the law and of its plain side; no condition but those that each theorem states. -/
import Derived.Test.YtjhcbnnochohpaaPD1
import Derived.Test.YtjhcbnnochohpaaPI1
import Derived.Test.YtjhcbnnochohpaaPS1
import Derived.Test.YtjhcbnnochohpaaPS2
import Derived.Test.YtjhcbnnochohpaaPS3
import Derived.Test.YtjhcbnnochohpaaPW123
import Derived.Test.YtjhcbnnochohpaaPW27
import Derived.Test.YtjhcbnnochohpaaPW28
set_option linter.all false
set_option maxRecDepth 100000
set_option maxHeartbeats 16000000
open Int renaming reduceToNat→qk,reduceAdd→ql,reduceSub→qm,reduceNeg→qn,reduceLT→qo,reduceLE→qp,reduceEq→qq,reduceBEq→qr,reduceBNe→qs
open Nat renaming reduceDiv→qa,reduceMod→qb,reduceAdd→qc,reduceMul→qd,reduceSub→qe,reduceLeDiff→qf,reduceBEq→qg,reduceEqDiff→qh,reduceBeqDiff→qi,reduceLT→qj
open Go.Hw renaming runG_split→gR,condG_split→gC,takG_split→gT,effG_split→gE
open Go.Hw.AWp renaming region→vR,seq→vS,cond'→vC,block→vB,skip→vK,ret→vT,exit→vE
open Go.Hw.Fin renaming auto→vF
open Go.Hw.SLe renaming auto→vL
open Go.Hw.CallX renaming of→vO
namespace Go.Hw
open Go.Proofs
def pl_runS_world0:Plan:=(.tak 0 (.tak 1 (.tak 2 (.tak 3 (.tak 4 (.tak 5 (.tak 6 (.tak 7 (.tak 8 (.tak 9 (.tak 10 (.tak 11 (.tak 12 (.tak 13 (.tak 14 (.tak 15 (.tak 16 (.tak 17 (.tak 18 (.tak 19 (.tak 20 (.tak 21 (.tak 22 (.tak 23 (.tak 24 (.all (.cons 25 (.all (.cons 26 (.all (.cons 27 .done .nil)) .nil)) .nil)))))))))))))))))))))))))))
attribute [go_sem] pl_runS_world0
def pl_runS_world1:Plan:=(.tak 0 (.tak 1 (.tak 2 (.tak 3 (.tak 6 (.tak 9 (.all (.cons 4 (.tak 5 (.all (.cons 7 (.tak 8 (.all (.cons 10 (.all (.cons 11 (.all (.cons 12 (.all (.cons 13 .done .nil)) .nil)) (.cons 12 (.all (.cons 11 (.all (.cons 13 .done .nil)) .nil)) .nil))) (.cons 12 (.all (.cons 10 (.all (.cons 11 (.all (.cons 13 .done .nil)) .nil)) .nil)) .nil)))) (.cons 12 (.all (.cons 7 (.tak 8 (.all (.cons 10 (.all (.cons 11 (.all (.cons 13 .done .nil)) .nil)) .nil))) .nil)) .nil)))) (.cons 12 (.all (.cons 4 (.tak 5 (.all (.cons 7 (.tak 8 (.all (.cons 10 (.all (.cons 11 (.all (.cons 13 .done .nil)) .nil)) .nil))) .nil))) .nil)) .nil)))))))))
attribute [go_sem] pl_runS_world1
def pl_runS_world2:Plan:=(.tak 0 (.tak 1 (.tak 2 (.tak 3 (.tak 4 (.tak 5 (.all (.cons 6 (.tak 7 (.all (.cons 8 (.tak 9 (.all (.cons 10 .done .nil))) .nil))) .nil))))))))
attribute [go_sem] pl_runS_world2
def pl_runS_world3:Plan:=(.tak 0 (.tak 1 (.tak 2 (.all (.cons 3 (.all (.cons 4 (.all (.cons 5 .done .nil)) .nil)) .nil)))))
attribute [go_sem] pl_runS_world3
section
variable {ops:List Oper} {rest:List Oper} {s:St} {K:St→Prop} {dst:Option Nat}
theorem runS_world (l:List Int) (p:Int) {h:Nat} (hl:Bytes l) (h0:0≤p) (h9:p≤800000) (hh:h < s.nx) (hH:hsub s.nx s.h (hren (rnF [h] s.nx) (rdH l p 0)))
   (hf:∀ (w:Two) (q:Int),(w.a.near∧w.b.near)∧p≤q∧q≤p+3010→runR Try.prog ti ops rest ({ s with h:=hren (rnF [h] s.nx) (rdH l q 0++worldH w 1)++minus s.h (hren (rnF [h] s.nx) (rdH l p 0)),nx:=s.nx+(18 - 1) }.put dst ((AV.o (.g (worldC false 1))).ren (rnF [h] s.nx))) K)
   (ht:∀ (w:Two) (q:Int),(w.a.near∧w.b.near)∧p≤q∧q≤p+3010→runR Try.prog ti ops rest ({ s with h:=hren (rnF [h] s.nx) (rdH l q 0++worldH w 1)++minus s.h (hren (rnF [h] s.nx) (rdH l p 0)),nx:=s.nx+(18 - 1) }.put dst ((AV.o (.g (worldC true 1))).ren (rnF [h] s.nx))) K) :
   runS Try.prog ti ops dst rest s K (.call 50 [.c (.ptr h 0 0 0)]) :=
 runS_at [h] (l71World_ok l p hl h0 h9) rfl ⟨hh,trivial⟩ hH fun y hy=>by
   obtain ⟨⟨w,cut⟩,q⟩:=y
   cases cut
   · exact hf w q hy
   · exact ht w q hy
end
def zC13:List Cell:=[ci 0,.t (.v (.slice none 0 0)),.t (.v (.slice none 0 0)),ci 0,ci 0,ci 0,ci 0,.t (.v (.slice none 0 0)),.t (.v (.slice none 0 0)),.t (.v (.slice none 0 0)),.t (.v (.slice none 0 0)),.t (.v (.slice none 0 0)),.t (.v (.slice none 0 0))]
def zS7:List Cell:=[ci 0,ci 0,ci 0,.t (.v (.slice none 0 0)),.t (.v (.slice none 0 0)),.t (.v (.slice none 0 0)),.t (.v (.slice none 0 0))]
def zE11:List Cell:=[ci 0,ci 0,ci 0,ci 0,ci 0,ci 0,ci 0,ci 0,ci 0,ci 0,ci 0]
attribute [go_sem] zC13 zS7 zE11
def jO (l:List Int) (x:Nat × (Two × Bool) × Int):St:=⟨[(0,.o (.c (.ptr 0 0 0 0))),(1,.o (I 6)),(4,.o (.c (.ptr 1 0 0 0))),(5,.o (.c (.ptr 2 0 0 0))),(6,.o (.c (.ptr 3 0 0 0))),(7,.o (.c (.ptr 21 0 0 0))),(8,.o (I x.1))],
 rdH l x.2.2 0++((1,.box zC13) ::(2,.box zS7) ::(3,.box zE11) ::(21,.box (worldC x.2.1.2 4)) ::worldH x.2.1.1 4),22⟩
attribute [go_sem] jO
def jI (l:List Int) (x:(Two × Bool) × Int):St:=⟨[(0,.o (.c (.ptr 0 0 0 0))),(1,.o (I 6)),(4,.o (.c (.ptr 1 0 0 0))),(5,.o (.c (.ptr 2 0 0 0))),(6,.o (.c (.ptr 3 0 0 0))),(7,.o (.c (.ptr 21 0 0 0)))],
 rdH l x.2 0++((1,.box zC13) ::(2,.box zS7) ::(3,.box zE11) ::(21,.box (worldC x.1.2 4)) ::worldH x.1.1 4),22⟩
attribute [go_sem] jI
def State.nearS (s:State):Prop:=∃ d:State,d.ok=true∧s.sent=d.sent∧s.live=d.live∧s.back=d.back∧s.got=d.got
theorem nearS_ok {s:State} (h:s.ok=true):s.nearS:=⟨s,h,rfl,rfl,rfl,rfl⟩
theorem near_state {c:Chain} (h:c.near):c.state.nearS:=by
 obtain ⟨d,hd,_,_,_,_,h1,h2,h3,h4,_⟩:=h
 exact ⟨d.state,(chain_ok hd).2.2.1,h1,h2,h3,h4⟩
theorem nearS_small {s:State} (h:s.nearS):s.small:=by
 obtain ⟨d,hd,h1,h2,h3,h4⟩:=h
 obtain ⟨r1,r2,r3,r4,r5,r6,_⟩:=state_ok hd
 exact ⟨by rw [h1];omega,by rw [h4];omega⟩
theorem near_small {c:Chain} (h:c.near):c.small:=by
 have hs:=nearS_small (near_state h)
 obtain ⟨d,hd,h1,h2,h3,h4,_,_,_,_,h5⟩:=h
 obtain ⟨q1,q2,q3,q4,q5,q6⟩:=chain_ok hd
 obtain ⟨b1,b2,b3,b4,b5⟩:=bank_ok q2
 have k1:=parts_len b1
 have k2:=parts_len b2
 have k3:=knows_len q6
 have k4:=parts_all b1
 refine ⟨by rw [h2];omega,by rw [h3];omega,by omega,hs,by rw [h1];omega,fun i=>?_,by omega⟩
 rw [h1]
 by_cases hi:i < d.past.length
 · exact nearS_small (nearS_ok (q5 i hi))
 · rw [getD_len (by omega)];exact ⟨by decide,by decide⟩
theorem plan_at {c o:Chain} {ch:Int} (h1:∀ i,i < c.knows.length→knowOk c.knows i=true) (h2:0 < c.knows.length→lastK c≤o.past.length) {k:Nat} (hk:k < (planC c o ch).length) :
   1≤((planC c o ch).getD k default).height∧((planC c o ch).getD k default).height≤o.past.length:=by
 have hm:(planC c o ch).getD k default ∈ planC c o ch:=getD_mem (d:=default) hk
 unfold planC at hm hk
 split at hm
 · cases hm
 · rename_i h0
   have e1:=lastK_in h1 h0
   have e2:=h2 (by omega)
   have eh:((planC c o ch).getD k default).height=lastK c:=by
     unfold planOf getsOf restOf restAt at hm
     simp only [List.mem_append,List.mem_map,List.mem_flatMap] at hm
     rcases hm with ⟨p,_,hp⟩|⟨i,_,hp⟩
     · have:=congrArg Event.height hp;unfold planC;rw [if_neg h0];unfold planOf getsOf restOf restAt;exact this.symm
     · unfold planC;rw [if_neg h0];unfold planOf getsOf restOf restAt
       rcases hp with hp|hp<;>split at hp<;>first|(cases hp;done)|(rw [List.mem_singleton] at hp;rw [hp])
   omega
theorem two_near {a b:Chain} (h1:a.near) (h2:b.near):∀ i,(([a,b]:List Chain).getD i default).small
 | 0=>near_small h1
 | 1=>near_small h2
 | i+2=>def_small2
theorem WorldOk_cut (w:Two):Call Try.prog 36 [.g [.sl 0 13 1 1]] (worldH w 0) 17 (.o (BB false)) (worldH w 0) 17:=by
 refine vO tok Try.func36 rfl rfl Try.ntmps36 Try.results36 rfl (by decide) (fun cx hnt hk0=>?_)
 repeat' (first|refine vS fun K hK=>?_|refine hK _ ?_;clear hK K|refine hX ?_;clear hX hY X Y|((first|refine vR tok (by rw [hnt];rfl) ?_|refine vC fun X Y hX hY=>?_|refine vT ?_|(refine vF [] ?_))<;>(try simp only [go_sem,qa,qb,qc,qd,qe,qf,qg,qh,qi,qj,qk,ql,qm,qn,qo,qp,qq,qr,qs,reduceIte,reduceCtorEq])))
theorem SumPlan_cut (w:Two) (ch:Int):Call Try.prog 11 [.g [.sl 0 13 1 1],I ch] (worldH w 0) 17 (.o (.c (.sl 17 11 0 0))) ((17,rE []) ::worldH w 0) 18:=by
 have cW:=WorldOk_cut w
 refine vO tok Try.func11 rfl rfl Try.ntmps11 Try.results11 rfl (by decide) (fun cx hnt hk0=>?_)
 repeat' (first|refine vS fun K hK=>?_|refine hK _ ?_;clear hK K|refine hX ?_;clear hX hY X Y|((first|refine vR tok (by rw [hnt];rfl) ?_|refine vC fun X Y hX hY=>?_|refine vT ?_|refine vF [] ?_|(refine runS_c [0,1,2,3,4,5,6,7,8,9,10,11,12,13,14,15,16] (cW) rfl ?_ ?_ ?_))<;>(try simp only [go_sem,qa,qb,qc,qd,qe,qf,qg,qh,qi,qj,qk,ql,qm,qn,qo,qp,qq,qr,qs,reduceIte,reduceCtorEq])))
theorem ok_fst {a b:Chain} (h:wOk (.cons a (.cons b .nil))=true):a.ok=true:=(wOk_two h).1
theorem ok_snd {a b:Chain} (h:wOk (.cons a (.cons b .nil))=true):b.ok=true:=(wOk_two h).2.2.1
def evK (n:Nat):Event:=⟨2,1,n,0,⟨0,0,0,0,0,0,0⟩⟩
attribute [go_sem] evK
theorem near_list {w:Two} (h:wOk w.list=true):w.a.near∧w.b.near:=by
 obtain ⟨h1,_,h3,_⟩:=wOk_two (a:=w.a) (b:=w.b) h
 exact ⟨near_ok h1,near_ok h3⟩
theorem near_sent {c:Chain} (h:c.near):c.state.sent.length≤8:=by
 obtain ⟨d,hd,h1,_⟩:=near_state h
 obtain ⟨r1,r2,r3,r4,r5,r6,_⟩:=state_ok hd
 rw [h1];omega
def jK (l:List Int) (a b:Chain) (i:Nat) (ch:Int) (r:Nat) (es:List Event) (x:Nat × Int):St:=⟨[(0,.o (.c (.ptr 0 0 0 0))),(1,.o (I 6)),(4,.o (.c (.ptr 1 0 0 0))),(5,.o (.c (.ptr 2 0 0 0))),(6,.o (.c (.ptr 3 0 0 0))),(7,.o (.c (.ptr 21 0 0 0))),(8,.o (I i)),(9,.o (I ch)),(10,.o (.c (.sl r 11 0 es.length))),(11,.o (I x.1))],
 rdH l x.2 0++((1,.box zC13) ::(2,.box zS7) ::(3,.box zE11) ::(21,.box (worldC false 4)) ::(r,rE es) ::worldH ⟨a,b⟩ 4),r+1⟩
attribute [go_sem] jK
abbrev kq1 (k:Nat) (q:Int):Nat × Int:=(k+1,q+1)
abbrev kq0 (k:Nat) (q:Int):Nat × Int:=(k+1,q)
theorem l72Relay_ok (l:List Int) (hl:Bytes l):CallX (α:=(Chain × State) × (Event × Int)) Try.prog 20 [.c (.ptr 0 0 0 0),I 6] (rdH l 0 0) 1 (fun x=>(x.1.1.near∧x.1.2.nearS)∧0≤x.2.2) (fun x=>.tup [x.1.1.av,x.1.2.av,x.2.1.av]) (fun x=>rdH l x.2.2 0) 1:=by
 refine vO tok Try.func20 rfl rfl Try.ntmps20 Try.results20 rfl (by decide) (fun cx hnt hk0=>?_)
 repeat' (first|(refine AWp.join (x:=.region 1 _ _) (jI l) (fun x=>(x.1.1.a.near∧x.1.1.b.near)∧0≤x.2∧x.2≤3010) ?_ ?_)|refine vS fun K hK=>?_|refine hK _ ?_;clear hK K|((first|refine vR tok (by rw [hnt];rfl) ?_|(refine runS_world l 0 hl (by omega) (by omega) ?_ ?_ (fun w q hy=>?_) (fun w q hy=>?_)))<;>(try simp only [go_sem,qa,qb,qc,qd,qe,qf,qg,qh,qi,qj,qk,ql,qm,qn,qo,qp,qq,qr,qs,reduceIte,reduceCtorEq])))
 all_goals try omega
 · refine ⟨((w,false),q),⟨hy.1,by dsimp only;omega,by dsimp only;omega⟩,?_⟩
   refine vL hk0 [] ?_
   simp only [go_sem,qa,qb,qc,qd,qe,qf,qg,qh,qi,qj,qk,ql,qm,qn,qo,qp,qq,qr,qs,reduceIte,reduceCtorEq]
 · refine ⟨((w,true),q),⟨hy.1,by dsimp only;omega,by dsimp only;omega⟩,?_⟩
   refine vL hk0 [] ?_
   simp only [go_sem,qa,qb,qc,qd,qe,qf,qg,qh,qi,qj,qk,ql,qm,qn,qo,qp,qq,qr,qs,reduceIte,reduceCtorEq]
 · rintro ⟨⟨w, cut⟩,q⟩ hy
   simp only [go_sem,qa,qb,qc,qd,qe,qf,qg,qh,qi,qj,qk,ql,qm,qn,qo,qp,qq,qr,qs,reduceIte,reduceCtorEq]
   repeat' (first|refine vS fun K hK=>?_|refine hK _ ?_;clear hK K|refine vB ?_|((refine vR tok (by rw [hnt];rfl) ?_)<;>(try simp only [go_sem,qa,qb,qc,qd,qe,qf,qg,qh,qi,qj,qk,ql,qm,qn,qo,qp,qq,qr,qs,reduceIte,reduceCtorEq])))
   refine AWp.loop (jO l) (fun x=>x.1≤6∧(x.2.1.1.a.near∧x.2.1.1.b.near)∧0≤x.2.2∧x.2.2≤6000 * (x.1+1)) (fun x=>6 - x.1) (0,(w,cut),q) ⟨by simp,hy.1,by dsimp only at hy ⊢;omega,by dsimp only at hy ⊢;omega⟩ ?_ ?_
   · cases cut
     · refine vL hk0 [] ?_;simp only [go_sem,qa,qb,qc,qd,qe,qf,qg,qh,qi,qj,qk,ql,qm,qn,qo,qp,qq,qr,qs,reduceIte,reduceCtorEq]
       all_goals rfl
     · refine vL hk0 [] ?_;simp only [go_sem,qa,qb,qc,qd,qe,qf,qg,qh,qi,qj,qk,ql,qm,qn,qo,qp,qq,qr,qs,reduceIte,reduceCtorEq]
       all_goals rfl
   rintro ⟨i,⟨⟨a,b⟩,cut⟩,p⟩ ⟨hi,hn,hp0,hp9⟩
   simp only at hi hn hp0 hp9
   by_cases hlt:(i:Int) < 6
   ·
     repeat' (first|(refine AWp.join (x:=.seq (.region 5 _ _) (.block 2 _)) (fun q:Int=>jO l (i,((⟨a,b⟩,cut),q))) (fun q=>p≤q∧q≤p+2000) ?_ ?_)|refine vS fun K hK=>?_|refine hK _ ?_;clear hK K|refine hX ?_;clear hX hY X Y|refine vB ?_|((first|refine vR tok (by rw [hnt];rfl) ?_|refine vC fun X Y hX hY=>?_|refine vK ?_|(apply gC<;>intro hq<;>(try simp only [nT,nF,n1,n0] at hq)<;>(have hb:=hq)<;>(try simp only [dT,dF,eT,eF] at hb)<;>first|(exfalso;omega)|((try simp only [hq]);clear hq)))<;>(try simp only [go_sem,qa,qb,qc,qd,qe,qf,qg,qh,qi,qj,qk,ql,qm,qn,qo,qp,qq,qr,qs,reduceIte,reduceCtorEq])))
     all_goals try omega
     · cases cut
       · by_cases ok1:wOk [a,b]=true
         · obtain ⟨o1,o2,o3,o4⟩:=wOk_two ok1
           have cW1:=SumPlan_1 a b ok1
           have cW2:=SumPlan_2 a b ok1
           have bp:=(chain_ok o3).2.2.2.1
           have ap:=(chain_ok o1).2.2.2.1
           have pl1:=plan_len a b 1 o1 o3
           have pl2:=plan_len b a 2 o3 o1
           have pa1:=fun k hk=>plan_at (c:=a) (o:=b) (ch:=1) (chain_ok o1).2.2.2.2.2 o2 (k:=k) hk
           have pa2:=fun k hk=>plan_at (c:=b) (o:=a) (ch:=2) (chain_ok o3).2.2.2.2.2 o4 (k:=k) hk
           refine AWp.loopN 3 fun L hL=>?_
           repeat' (first|refine vS fun K hK=>?_|refine hK _ ?_;clear hK K|refine hX ?_;clear hX hY X Y|refine vB ?_|refine hL _ _ ?_|((first|refine vR tok (by rw [hnt];rfl) ?_|refine vC fun X Y hX hY=>?_|refine vK ?_|(refine runS_v [] (cW1) ?_ ?_ ?_ ?_ ?_))<;>(try simp only [go_sem,qa,qb,qc,qd,qe,qf,qg,qh,qi,qj,qk,ql,qm,qn,qo,qp,qq,qr,qs,reduceIte,reduceCtorEq])))
           all_goals try omega
           refine AWp.loop (jK l a b i 1 22 (planC a b 1)) (fun x=>x.1≤(planC a b 1).length∧p≤x.2∧x.2≤p+x.1) (fun x=>(planC a b 1).length - x.1) (0,p) ⟨Nat.zero_le _,Int.le_refl _,by simp⟩ ?_ ?_
           · refine vL hk0 [] ?_;simp only [go_sem,qa,qb,qc,qd,qe,qf,qg,qh,qi,qj,qk,ql,qm,qn,qo,qp,qq,qr,qs,reduceIte,reduceCtorEq]
             all_goals first|rfl
           rintro ⟨k,q⟩ ⟨g1,g2,g3⟩
           simp only at g1 g2 g3
           by_cases hk:(k:Int) < (planC a b 1).length
           · have hkk:=pa1 k (by omega)
             by_cases h6:((planC a b 1).getD k default).kind=6
             ·

               repeat' (first|refine vS fun K hK=>?_|refine hK _ ?_;clear hK K|refine hX ?_;clear hX hY X Y|refine hY ?_;clear hX hY X Y|refine vB ?_|((first|refine vR tok (by rw [hnt];rfl) ?_|refine vC fun X Y hX hY=>?_|refine vK ?_|refine vT ?_|refine runS_pick l hl rfl ?_ ?_ ?_ (fun x hx=>?_)|(refine AWp.draw (id:=13) tok mixed pl_runS_world0 [4,11,19,21,22] [4,5,6,7,9,10,11] (by kernel_rfl) (by kernel_rfl) (by rw [hnt];rfl) ?_)|refine vL hk0 [] ?_|(apply gC<;>intro hq<;>(try simp only [nT,nF,n1,n0] at hq)<;>(have hb:=hq)<;>(try simp only [dT,dF,eT,eF] at hb)<;>first|(exfalso;omega)|((try simp only [hq]);clear hq)))<;>(try simp only [go_sem,qa,qb,qc,qd,qe,qf,qg,qh,qi,qj,qk,ql,qm,qn,qo,qp,qq,qr,qs,reduceIte,reduceCtorEq,h6]))|refine ⟨kq1 k q,?_,?_,?_⟩|refine Fits.of ?_ ?_|(refine aL ?_ (fun hp=>?_)<;>((try simp only [rowSet_fI hp,rowSet_fI2 hp]);(try simp only [rowSet_fB hp])))|refine aE ?_ fun hp=>?_|refine aC ?_ fun hp=>?_|refine And.intro ?_ ?_|clear hK K|clear hL L)
               all_goals try omega
               all_goals try (dsimp only [kq1];omega)
               all_goals ((apply Exists.intro (((a,b.past.getD (((planC a b 1).getD k default).height - 1).toNat default),(({ (planC a b 1).getD k default with kind:=6 }:Event),_)));apply And.intro;rotate_left;focus (refine vF [5,6,7,8,9,10,11,12] ?_;simp only [go_sem,qa,qb,qc,qd,qe,qf,qg,qh,qi,qj,qk,ql,qm,qn,qo,qp,qq,qr,qs,reduceIte,reduceCtorEq];first|rfl|refine ⟨?_,?_⟩<;>rfl|(repeat' (apply And.intro))<;>first|rfl|trivial);try dsimp only))
               exact ⟨⟨near_ok o1,nearS_ok ((chain_ok o3).2.2.2.2.1 _ (by omega))⟩,by show (0:Int)≤q+1;omega⟩
             ·
               repeat' (first|refine vS fun K hK=>?_|refine hK _ ?_;clear hK K|refine hX ?_;clear hX hY X Y|refine hY ?_;clear hX hY X Y|refine vB ?_|((first|refine vR tok (by rw [hnt];rfl) ?_|refine vC fun X Y hX hY=>?_|refine vK ?_|refine vL hk0 [] ?_|(apply gC<;>intro hq<;>(try simp only [nT,nF,n1,n0] at hq)<;>(have hb:=hq)<;>(try simp only [dT,dF,eT,eF] at hb)<;>first|(exfalso;omega)|((try simp only [hq]);clear hq)))<;>(try simp only [go_sem,qa,qb,qc,qd,qe,qf,qg,qh,qi,qj,qk,ql,qm,qn,qo,qp,qq,qr,qs,reduceIte,reduceCtorEq,h6]))|refine ⟨kq0 k q,?_,?_,?_⟩|refine Fits.of ?_ ?_|(refine aL ?_ (fun hp=>?_)<;>((try simp only [rowSet_fI hp,rowSet_fI2 hp]);(try simp only [rowSet_fB hp])))|refine aE ?_ fun hp=>?_|refine aC ?_ fun hp=>?_|refine And.intro ?_ ?_|clear hK K|clear hL L)
               all_goals first|omega|(dsimp only [kq0];omega)
           ·
             repeat' (first|refine vS fun K hK=>?_|refine hK _ ?_;clear hK K|refine hX ?_;clear hX hY X Y|refine hY ?_;clear hX hY X Y|refine vB ?_|refine hL _ _ ?_|((first|refine vR tok (by rw [hnt];rfl) ?_|refine vC fun X Y hX hY=>?_|refine vK ?_|refine vE ?_|refine runS_v [] (cW2) ?_ ?_ ?_ ?_ ?_|(apply gC<;>intro hq<;>(try simp only [nT,nF,n1,n0] at hq)<;>(have hb:=hq)<;>(try simp only [dT,dF,eT,eF] at hb)<;>first|(exfalso;omega)|((try simp only [hq]);clear hq)))<;>(try simp only [go_sem,qa,qb,qc,qd,qe,qf,qg,qh,qi,qj,qk,ql,qm,qn,qo,qp,qq,qr,qs,reduceIte,reduceCtorEq]))|refine Fits.of ?_ ?_|refine And.intro ?_ ?_|clear hK K|clear hL L)
             all_goals try omega
             refine AWp.loop (jK l a b i 2 23 (planC b a 2)) (fun x=>x.1≤(planC b a 2).length∧q≤x.2∧x.2≤q+x.1) (fun x=>(planC b a 2).length - x.1) (0,q) ⟨Nat.zero_le _,Int.le_refl _,by simp⟩ ?_ ?_
             · refine vL hk0 [] ?_;simp only [go_sem,qa,qb,qc,qd,qe,qf,qg,qh,qi,qj,qk,ql,qm,qn,qo,qp,qq,qr,qs,reduceIte,reduceCtorEq]
               all_goals first|rfl
             rintro ⟨k2,q2⟩ ⟨g4,g5,g6⟩
             simp only at g4 g5 g6
             by_cases hk2:(k2:Int) < (planC b a 2).length
             · have hkk:=pa2 k2 (by omega)
               by_cases h6:((planC b a 2).getD k2 default).kind=6
               ·

                 repeat' (first|refine vS fun K hK=>?_|refine hK _ ?_;clear hK K|refine hX ?_;clear hX hY X Y|refine hY ?_;clear hX hY X Y|refine vB ?_|((first|refine vR tok (by rw [hnt];rfl) ?_|refine vC fun X Y hX hY=>?_|refine vK ?_|refine vT ?_|refine runS_pick l hl rfl ?_ ?_ ?_ (fun x hx=>?_)|(refine AWp.draw (id:=13) tok mixed pl_runS_world0 [4,11,19,21,23] [4,5,6,7,9,10,11] (by kernel_rfl) (by kernel_rfl) (by rw [hnt];rfl) ?_)|refine vL hk0 [] ?_|(apply gC<;>intro hq<;>(try simp only [nT,nF,n1,n0] at hq)<;>(have hb:=hq)<;>(try simp only [dT,dF,eT,eF] at hb)<;>first|(exfalso;omega)|((try simp only [hq]);clear hq)))<;>(try simp only [go_sem,qa,qb,qc,qd,qe,qf,qg,qh,qi,qj,qk,ql,qm,qn,qo,qp,qq,qr,qs,reduceIte,reduceCtorEq,h6]))|refine ⟨kq1 k2 q2,?_,?_,?_⟩|refine Fits.of ?_ ?_|(refine aL ?_ (fun hp=>?_)<;>((try simp only [rowSet_fI hp,rowSet_fI2 hp]);(try simp only [rowSet_fB hp])))|refine aE ?_ fun hp=>?_|refine aC ?_ fun hp=>?_|refine And.intro ?_ ?_|clear hK K|clear hL L)
                 all_goals try omega
                 all_goals try (dsimp only [kq1];omega)
                 all_goals ((apply Exists.intro (((b,a.past.getD (((planC b a 2).getD k2 default).height - 1).toNat default),(({ (planC b a 2).getD k2 default with kind:=6 }:Event),_)));apply And.intro;rotate_left;focus (refine vF [13,14,15,16,17,18,19,20] ?_;simp only [go_sem,qa,qb,qc,qd,qe,qf,qg,qh,qi,qj,qk,ql,qm,qn,qo,qp,qq,qr,qs,reduceIte,reduceCtorEq];first|rfl|refine ⟨?_,?_⟩<;>rfl|(repeat' (apply And.intro))<;>first|rfl|trivial);try dsimp only))
                 exact ⟨⟨near_ok o3,nearS_ok ((chain_ok o1).2.2.2.2.1 _ (by omega))⟩,by show (0:Int)≤q2+1;omega⟩
               ·
                 repeat' (first|refine vS fun K hK=>?_|refine hK _ ?_;clear hK K|refine hX ?_;clear hX hY X Y|refine hY ?_;clear hX hY X Y|refine vB ?_|((first|refine vR tok (by rw [hnt];rfl) ?_|refine vC fun X Y hX hY=>?_|refine vK ?_|refine vL hk0 [] ?_|(apply gC<;>intro hq<;>(try simp only [nT,nF,n1,n0] at hq)<;>(have hb:=hq)<;>(try simp only [dT,dF,eT,eF] at hb)<;>first|(exfalso;omega)|((try simp only [hq]);clear hq)))<;>(try simp only [go_sem,qa,qb,qc,qd,qe,qf,qg,qh,qi,qj,qk,ql,qm,qn,qo,qp,qq,qr,qs,reduceIte,reduceCtorEq,h6]))|refine ⟨kq0 k2 q2,?_,?_,?_⟩|refine Fits.of ?_ ?_|(refine aL ?_ (fun hp=>?_)<;>((try simp only [rowSet_fI hp,rowSet_fI2 hp]);(try simp only [rowSet_fB hp])))|refine aE ?_ fun hp=>?_|refine aC ?_ fun hp=>?_|refine And.intro ?_ ?_|clear hK K|clear hL L)
                 all_goals first|omega|(dsimp only [kq0];omega)
             ·
               repeat' (first|refine vS fun K hK=>?_|refine hK _ ?_;clear hK K|refine hY ?_;clear hX hY X Y|refine hL _ _ ?_|((first|refine vR tok (by rw [hnt];rfl) ?_|refine vC fun X Y hX hY=>?_|refine vE ?_|(apply gC<;>intro hq<;>(try simp only [nT,nF,n1,n0] at hq)<;>(have hb:=hq)<;>(try simp only [dT,dF,eT,eF] at hb)<;>first|(exfalso;omega)|((try simp only [hq]);clear hq)))<;>(try simp only [go_sem,qa,qb,qc,qd,qe,qf,qg,qh,qi,qj,qk,ql,qm,qn,qo,qp,qq,qr,qs,reduceIte,reduceCtorEq]))|refine Fits.of ?_ ?_|refine And.intro ?_ ?_|clear hK K|clear hL L)
               all_goals try omega
               refine ⟨q2,⟨by omega,by omega⟩,?_⟩
               refine vL hk0 [] ?_
               simp only [go_sem,qa,qb,qc,qd,qe,qf,qg,qh,qi,qj,qk,ql,qm,qn,qo,qp,qq,qr,qs,reduceIte,reduceCtorEq]
         · have hsm:∀ i,(([a,b]:List Chain).getD i default).small:=two_near hn.1 hn.2
           have cN1:=SumPlan_no [a,b] 1 hsm (by simp) (by simp [ok1])
           have cN2:=SumPlan_no [a,b] 2 hsm (by simp) (by simp [ok1])
           have e0:(([]:List Event).length:Int)=0:=rfl
           refine AWp.loopN 3 fun L0 hL0=>?_

           repeat' (first|refine hL0 _ _ ?_|refine vS fun K hK=>?_|refine hK _ ?_;clear hK K|refine hX ?_;clear hX hY X Y|refine vB ?_|((first|refine vR tok (by rw [hnt];rfl) ?_|refine vC fun X Y hX hY=>?_|refine vK ?_|(refine runS_v [] (cN1) ?_ ?_ ?_ ?_ ?_))<;>(try simp only [go_sem,qa,qb,qc,qd,qe,qf,qg,qh,qi,qj,qk,ql,qm,qn,qo,qp,qq,qr,qs,reduceIte,reduceCtorEq,e0])))
           all_goals try omega
           refine AWp.loopN 1 fun L hL=>?_
           repeat' (first|refine hL0 _ _ ?_|refine vS fun K hK=>?_|refine hK _ ?_;clear hK K|refine hX ?_;clear hX hY X Y|refine hY ?_;clear hX hY X Y|refine vB ?_|refine hL _ _ ?_|((first|refine vR tok (by rw [hnt];rfl) ?_|refine vC fun X Y hX hY=>?_|refine vK ?_|refine vE ?_|(refine runS_v [] (cN2) ?_ ?_ ?_ ?_ ?_))<;>(try simp only [go_sem,qa,qb,qc,qd,qe,qf,qg,qh,qi,qj,qk,ql,qm,qn,qo,qp,qq,qr,qs,reduceIte,reduceCtorEq,e0]))|refine Fits.of ?_ ?_|refine And.intro ?_ ?_|clear hK K|clear hL L)
           all_goals try omega
           refine AWp.loopN 1 fun L hL=>?_
           repeat' (first|refine hL0 _ _ ?_|refine vS fun K hK=>?_|refine hK _ ?_;clear hK K|refine hY ?_;clear hX hY X Y|refine hL _ _ ?_|((first|refine vR tok (by rw [hnt];rfl) ?_|refine vC fun X Y hX hY=>?_|(refine vE ?_))<;>(try simp only [go_sem,qa,qb,qc,qd,qe,qf,qg,qh,qi,qj,qk,ql,qm,qn,qo,qp,qq,qr,qs,reduceIte,reduceCtorEq,e0]))|refine Fits.of ?_ ?_|refine And.intro ?_ ?_|clear hK K|clear hL L)
           all_goals try omega
           refine ⟨p,⟨by omega,by omega⟩,?_⟩
           refine vL hk0 [] ?_
           simp only [go_sem,qa,qb,qc,qd,qe,qf,qg,qh,qi,qj,qk,ql,qm,qn,qo,qp,qq,qr,qs,reduceIte,reduceCtorEq]
       · have cN1:=SumPlan_cut ⟨a,b⟩ 1
         have cN2:=SumPlan_cut ⟨a,b⟩ 2
         have e0:(([]:List Event).length:Int)=0:=rfl
         refine AWp.loopN 3 fun L0 hL0=>?_

         repeat' (first|refine hL0 _ _ ?_|refine vS fun K hK=>?_|refine hK _ ?_;clear hK K|refine hX ?_;clear hX hY X Y|refine vB ?_|((first|refine vR tok (by rw [hnt];rfl) ?_|refine vC fun X Y hX hY=>?_|refine vK ?_|(refine runS_c [4,5,6,7,8,9,10,11,12,13,14,15,16,17,18,19,20] (cN1) rfl ?_ ?_ ?_))<;>(try simp only [go_sem,qa,qb,qc,qd,qe,qf,qg,qh,qi,qj,qk,ql,qm,qn,qo,qp,qq,qr,qs,reduceIte,reduceCtorEq,e0])))
         all_goals try omega
         refine AWp.loopN 1 fun L hL=>?_
         repeat' (first|refine hL0 _ _ ?_|refine vS fun K hK=>?_|refine hK _ ?_;clear hK K|refine hX ?_;clear hX hY X Y|refine hY ?_;clear hX hY X Y|refine vB ?_|refine hL _ _ ?_|((first|refine vR tok (by rw [hnt];rfl) ?_|refine vC fun X Y hX hY=>?_|refine vK ?_|refine vE ?_|(refine runS_c [4,5,6,7,8,9,10,11,12,13,14,15,16,17,18,19,20] (cN2) rfl ?_ ?_ ?_))<;>(try simp only [go_sem,qa,qb,qc,qd,qe,qf,qg,qh,qi,qj,qk,ql,qm,qn,qo,qp,qq,qr,qs,reduceIte,reduceCtorEq,e0]))|refine Fits.of ?_ ?_|refine And.intro ?_ ?_|clear hK K|clear hL L)
         all_goals try omega
         refine AWp.loopN 1 fun L hL=>?_
         repeat' (first|refine hL0 _ _ ?_|refine vS fun K hK=>?_|refine hK _ ?_;clear hK K|refine hY ?_;clear hX hY X Y|refine hL _ _ ?_|((first|refine vR tok (by rw [hnt];rfl) ?_|refine vC fun X Y hX hY=>?_|(refine vE ?_))<;>(try simp only [go_sem,qa,qb,qc,qd,qe,qf,qg,qh,qi,qj,qk,ql,qm,qn,qo,qp,qq,qr,qs,reduceIte,reduceCtorEq,e0]))|refine Fits.of ?_ ?_|refine And.intro ?_ ?_|clear hK K|clear hL L)
         all_goals try omega
         refine ⟨p,⟨by omega,by omega⟩,?_⟩
         refine vL hk0 [] ?_
         simp only [go_sem,qa,qb,qc,qd,qe,qf,qg,qh,qi,qj,qk,ql,qm,qn,qo,qp,qq,qr,qs,reduceIte,reduceCtorEq]
     · intro q1 hq1
       cases cut
       all_goals (

         repeat' (first|refine vS fun K hK=>?_|refine hK _ ?_;clear hK K|refine hX ?_;clear hX hY X Y|refine hY ?_;clear hX hY X Y|((first|refine vR tok (by rw [hnt];rfl) ?_|refine vC fun X Y hX hY=>?_|refine vK ?_|(refine runS_world l q1 hl (by omega) (by omega) ?_ ?_ (fun w2 q2 hy2=>?_) (fun w2 q2 hy2=>?_))|refine runS_c [22,23,24,25,26,27,28,29,30,31,32,33,34,35,36,37,38] (WorldOk_cut w2) rfl ?_ ?_ ?_|(refine runS_v [] (WorldOk_ok (.cons w2.a (.cons w2.b .nil)) (two_near hy2.1.1 hy2.1.2) (by simp)) ?_ ?_ ?_ ?_ ?_)|(refine runS_c [22,23,24,25,26,27,28,29,30,31,32,33,34,35,36,37,38] (l21Do_ok w2 (evK (w2.b.past.length)) (ok_fst (by assumption)) (ok_snd (by assumption))) rfl ?_ ?_ ?_)|refine runS_pick l hl rfl ?_ ?_ ?_ (fun x hx=>?_)|((first|apply gR|apply gC)<;>intro hq<;>(try simp only [nT,nF,n1,n0] at hq)<;>(have hb:=hq)<;>(try simp only [dT,dF,eT,eF] at hb)<;>first|(exfalso;omega)|((try simp only [hq]);clear hq)))<;>(try simp only [go_sem,qa,qb,qc,qd,qe,qf,qg,qh,qi,qj,qk,ql,qm,qn,qo,qp,qq,qr,qs,reduceIte,reduceCtorEq]))|refine Fits.of ?_ ?_|(refine aL ?_ (fun hp=>?_)<;>((try simp only [rowSet_fI hp,rowSet_fI2 hp]);(try simp only [rowSet_fB hp])))|refine aE ?_ fun hp=>?_|refine And.intro ?_ ?_|(clear hK K)))
       all_goals try omega
       all_goals (have ez:((i+1:Nat):Int)=(i:Int)+1:=by omega)
       all_goals first
         | (refine ⟨(i+1,((w2,false),q2)),⟨by dsimp only;omega,hy2.1,by dsimp only;omega,by dsimp only;omega⟩,?_,by dsimp only;omega⟩;refine vL hk0 [] ?_;simp only [go_sem,qa,qb,qc,qd,qe,qf,qg,qh,qi,qj,qk,ql,qm,qn,qo,qp,qq,qr,qs,reduceIte,reduceCtorEq,ez];done)
         | (refine ⟨(i+1,((w2,false),q2+1)),⟨by dsimp only;omega,hy2.1,by dsimp only;omega,by dsimp only;omega⟩,?_,by dsimp only;omega⟩;refine vL hk0 [] ?_;simp only [go_sem,qa,qb,qc,qd,qe,qf,qg,qh,qi,qj,qk,ql,qm,qn,qo,qp,qq,qr,qs,reduceIte,reduceCtorEq,ez];done)
         | (refine ⟨(i+1,((w2.on (evK w2.b.past.length),false),q2+1)),⟨by dsimp only;omega,near_list (two_on_wOk (by assumption)),by dsimp only;omega,by dsimp only;omega⟩,?_,by dsimp only;omega⟩;refine vL hk0 [] ?_;simp only [go_sem,qa,qb,qc,qd,qe,qf,qg,qh,qi,qj,qk,ql,qm,qn,qo,qp,qq,qr,qs,reduceIte,reduceCtorEq,ez];done)
         | (refine ⟨(i+1,((w2,true),q2)),⟨by dsimp only;omega,hy2.1,by dsimp only;omega,by dsimp only;omega⟩,?_,by dsimp only;omega⟩;refine vL hk0 [] ?_;simp only [go_sem,qa,qb,qc,qd,qe,qf,qg,qh,qi,qj,qk,ql,qm,qn,qo,qp,qq,qr,qs,reduceIte,reduceCtorEq,ez];done)
         | trace_state
   · have e2c:((2:Nat):Int)=2:=rfl
     have e1c:((1:Nat):Int)=1:=rfl
     have bs:b.state.sent.length≤8:=near_sent hn.2
     cases cut
     ·

       repeat' (first|refine vS fun K hK=>?_|refine hK _ ?_;clear hK K|refine hX ?_;clear hX hY X Y|refine hY ?_;clear hX hY X Y|((first|refine vR tok (by rw [hnt];rfl) ?_|refine vC fun X Y hX hY=>?_|refine vK ?_|refine vE ?_|refine vT ?_|refine runS_pick l hl rfl ?_ ?_ ?_ (fun x hx=>?_)|(refine AWp.draw (id:=19) tok mixed pl_runS_world1 [22] [0,1,13] (by kernel_rfl) (by kernel_rfl) (by rw [hnt];rfl) ?_)|(refine AWp.draw (id:=22) tok mixed pl_runS_world2 [24] [0,14,15] (by kernel_rfl) (by kernel_rfl) (by rw [hnt];rfl) ?_)|(refine AWp.draw (id:=23) tok mixed pl_runS_world3 [22,23,24] [4,5,6,13,14,15] (by kernel_rfl) (by kernel_rfl) (by rw [hnt];rfl) ?_)|(refine effS_at [_] (l71Packet_ok l (p+1+1) hl (by omega) (by omega)) rfl ?_ ?_ (fun y hy=>?_))|refine effS_pick l hl rfl ?_ ?_ ?_ (fun x hx=>?_)|((first|apply gR|apply gC)<;>intro hq<;>(try simp only [nT,nF,n1,n0] at hq)<;>(have hb:=hq)<;>(try simp only [dT,dF,eT,eF] at hb)<;>first|(exfalso;omega)|((try simp only [hq]);clear hq)))<;>(try simp only [go_sem,qa,qb,qc,qd,qe,qf,qg,qh,qi,qj,qk,ql,qm,qn,qo,qp,qq,qr,qs,reduceIte,reduceCtorEq,e2c,rP]))|refine Fits.of ?_ ?_|(refine aL ?_ (fun hp=>?_)<;>((try simp only [rowSet_fI hp,rowSet_fI2 hp]);(try simp only [rowSet_fB hp])))|refine aE ?_ fun hp=>?_|refine aC ?_ fun hp=>?_|refine And.intro ?_ ?_|clear hK K)
       all_goals try omega
       all_goals first
         | ((apply Exists.intro (((a,b.state),(⟨6,_,_,_,_⟩,_)));apply And.intro;rotate_left;focus (refine vF [5,6,7,8,9,10,11,12,15,16,17,18] ?_;simp only [go_sem,qa,qb,qc,qd,qe,qf,qg,qh,qi,qj,qk,ql,qm,qn,qo,qp,qq,qr,qs,reduceIte,reduceCtorEq];first|rfl|refine ⟨?_,?_⟩<;>rfl|(repeat' (apply And.intro))<;>first|rfl|trivial);try dsimp only);exact ⟨⟨hn.1,near_state hn.2⟩,by dsimp only;omega⟩)
         | trace_state
     ·

       repeat' (first|refine vS fun K hK=>?_|refine hK _ ?_;clear hK K|refine hX ?_;clear hX hY X Y|refine hY ?_;clear hX hY X Y|((first|refine vR tok (by rw [hnt];rfl) ?_|refine vC fun X Y hX hY=>?_|refine vK ?_|refine vE ?_|refine vT ?_|refine runS_pick l hl rfl ?_ ?_ ?_ (fun x hx=>?_)|(refine AWp.draw (id:=19) tok mixed pl_runS_world1 [22] [0,1,13] (by kernel_rfl) (by kernel_rfl) (by rw [hnt];rfl) ?_)|(refine AWp.draw (id:=22) tok mixed pl_runS_world2 [24] [0,14,15] (by kernel_rfl) (by kernel_rfl) (by rw [hnt];rfl) ?_)|(refine AWp.draw (id:=23) tok mixed pl_runS_world3 [22,23,24] [4,5,6,13,14,15] (by kernel_rfl) (by kernel_rfl) (by rw [hnt];rfl) ?_)|(refine effS_at [_] (l71Packet_ok l (p+1+1) hl (by omega) (by omega)) rfl ?_ ?_ (fun y hy=>?_))|refine effS_pick l hl rfl ?_ ?_ ?_ (fun x hx=>?_)|((first|apply gR|apply gC)<;>intro hq<;>(try simp only [nT,nF,n1,n0] at hq)<;>(have hb:=hq)<;>(try simp only [dT,dF,eT,eF] at hb)<;>first|(exfalso;omega)|((try simp only [hq]);clear hq)))<;>(try simp only [go_sem,qa,qb,qc,qd,qe,qf,qg,qh,qi,qj,qk,ql,qm,qn,qo,qp,qq,qr,qs,reduceIte,reduceCtorEq,e1c,rP]))|refine Fits.of ?_ ?_|(refine aL ?_ (fun hp=>?_)<;>((try simp only [rowSet_fI hp,rowSet_fI2 hp]);(try simp only [rowSet_fB hp])))|refine aE ?_ fun hp=>?_|refine aC ?_ fun hp=>?_|refine And.intro ?_ ?_|clear hK K)
       all_goals try omega
       all_goals first
         | ((apply Exists.intro (((b,b.state),(⟨6,_,_,_,_⟩,_)));apply And.intro;rotate_left;focus (refine vF [13,14,15,16,17,18,19,20] ?_;simp only [go_sem,qa,qb,qc,qd,qe,qf,qg,qh,qi,qj,qk,ql,qm,qn,qo,qp,qq,qr,qs,reduceIte,reduceCtorEq];first|rfl|refine ⟨?_,?_⟩<;>rfl|(repeat' (apply And.intro))<;>first|rfl|trivial);try dsimp only);exact ⟨⟨hn.2,near_state hn.2⟩,by dsimp only;omega⟩)
         | trace_state
end Go.Hw
