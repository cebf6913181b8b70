/- What is proved here: parts of the walk of the law and of its plain side; no condition but those that each theorem states. -/
import Derived.Test.YtjhcbnnochohpaaPS3
set_option linter.all false
set_option maxRecDepth 100000
set_option maxHeartbeats 16000000
open Int renaming reduceToNat→qk,reduceAdd→ql,reduceSub→qm,reduceNeg→qn,reduceLT→qo,reduceLE→qp,reduceEq→qq,reduceBEq→qr,reduceBNe→qs
open Nat renaming reduceDiv→qa,reduceMod→qb,reduceAdd→qc,reduceMul→qd,reduceSub→qe,reduceLeDiff→qf,reduceBEq→qg,reduceEqDiff→qh,reduceBeqDiff→qi,reduceLT→qj
open Go.Hw renaming runG_split→gR,condG_split→gC,takG_split→gT,effG_split→gE
open Go.Hw.AWp renaming region→vR,seq→vS,cond'→vC,block→vB,skip→vK,ret→vT,exit→vE
open Go.Hw.Fin renaming auto→vF
open Go.Hw.CallX renaming of→vO
namespace Go.Hw
open Go.Proofs
section
variable {ops:List Oper} {rest:List Oper} {s:St} {K:St→Prop} {dst:Option Nat}
theorem runS_pick2 (l:List Int) (hl:Bytes l) {p:Int} {h:Nat} (hlook:look h s.h=some (.box [.t (bytesT l),.t (.v (.int .i64 p))])) (h0:0≤p∧p≤1000000) (hh:h < s.nx)
   (hK0:runR Try.prog ti ops rest ({ s with h:=(h,.box [.t (bytesT l),.t (.v (.int .i64 (p+1)))]) ::rem h s.h }.put dst (.o (I 0))) K)
   (hK1:runR Try.prog ti ops rest ({ s with h:=(h,.box [.t (bytesT l),.t (.v (.int .i64 (p+1)))]) ::rem h s.h }.put dst (.o (I 1))) K):runS Try.prog ti ops dst rest s K (.call 51 [.c (.ptr h 0 0 0),I 2]) :=
 runS_pick l hl hlook h0 (by decide) hh fun x hx=>by
   rcases (show x=0 ∨ x=1 by omega) with rfl|rfl
   · exact hK0
   · exact hK1
end
def Chain.near (c:Chain):Prop:=∃ d:Chain,d.ok=true∧c.past=d.past∧c.bank.own=d.bank.own∧c.bank.notes=d.bank.notes∧c.bank.locked≤d.bank.locked+1∧c.state.sent=d.state.sent∧c.state.live=d.state.live∧c.state.back=d.state.back∧c.state.got=d.state.got∧c.knows.length≤d.knows.length+1
theorem near_ok {c:Chain} (h:c.ok=true):c.near:=⟨c,h,rfl,rfl,rfl,by omega,rfl,rfl,rfl,rfl,by omega⟩
theorem near_id {c:Chain} (h:c.ok=true) {x:Int}:({ c with id:=x }:Chain).near:=⟨c,h,rfl,rfl,rfl,by show c.bank.locked≤_;omega,rfl,rfl,rfl,rfl,by show c.knows.length≤_;omega⟩
theorem near_want {c:Chain} (h:c.ok=true) {x:Int}:({ c with state:={ c.state with want:=x } }:Chain).near:=⟨c,h,rfl,rfl,rfl,by show c.bank.locked≤_;omega,rfl,rfl,rfl,rfl,by show c.knows.length≤_;omega⟩
theorem near_locked {c:Chain} (h:c.ok=true):({ c with bank:={ c.bank with locked:=c.bank.locked+1 } }:Chain).near:=⟨c,h,rfl,rfl,rfl,Int.le_refl _,rfl,rfl,rfl,rfl,by show c.knows.length≤_;omega⟩
theorem near_knows {c:Chain} (h:c.ok=true) {x:Int}:({ c with knows:=c.knows++[x] }:Chain).near:=⟨c,h,rfl,rfl,rfl,by show c.bank.locked≤_;omega,rfl,rfl,rfl,rfl,by simp⟩
def worldC (cut:Bool) (h:Nat):List Cell:=bif cut then [.sl h 13 1 1] else [.sl h 13 0 2]
@[go_sem] theorem worldC_t (h:Nat):worldC true h=[.sl h 13 1 1]:=rfl
@[go_sem] theorem worldC_f (h:Nat):worldC false h=[.sl h 13 0 2]:=rfl
theorem l71World_ok (l:List Int) (p:Int) (hl:Bytes l) (h0:0≤p) (h9:p≤800000):CallX (α:=(Two × Bool) × Int) Try.prog 50 [.c (.ptr 0 0 0 0)] (rdH l p 0) 1 (fun x=>(x.1.1.a.near∧x.1.1.b.near)∧p≤x.2∧x.2≤p+3010) (fun x=>.o (.g (worldC x.1.2 1))) (fun x=>rdH l x.2 0++worldH x.1.1 1) 18:=by
 refine vO tok Try.func50 rfl rfl Try.ntmps50 Try.results50 rfl (by decide) (fun cx hnt hk0=>?_)

 repeat' (first|refine vS fun K hK=>?_|refine hK _ ?_;clear hK K|refine hX ?_;clear hX hY X Y|refine hY ?_;clear hX hY X Y|refine vB ?_|((first|refine vR tok (by rw [hnt];rfl) ?_|refine vC fun X Y hX hY=>?_|refine vK ?_|refine vT ?_|(refine runS_at [_] (l71Play_ok l p hl h0 h9) rfl ?_ ?_ (fun y hy=>?_))|refine runS_pick2 l hl rfl ?_ ?_ ?_ ?_|refine runS_pick l hl rfl ?_ ?_ ?_ (fun x hx=>?_)|(refine AWp.draw (id:=5) tok mixed (.tak 0 (.tak 1 (.tak 2 (.tak 3 (.all (.cons 4 (.tak 5 (.tak 6 (.all (.cons 7 .done .nil)))) .nil)))))) [20] [0,4,5] (by kernel_rfl) (by kernel_rfl) (by rw [hnt];rfl) ?_)|(refine AWp.draw (id:=7) tok mixed (.tak 0 (.tak 1 (.tak 2 (.tak 3 (.tak 4 (.tak 5 (.tak 6 (.tak 7 (.tak 9 (.all (.cons 8 (.all (.cons 10 (.all (.cons 11 (.all (.cons 12 (.tak 13 (.tak 14 (.all (.cons 15 .done .nil)))) .nil)) .nil)) .nil)) (.cons 10 (.all (.cons 8 (.all (.cons 11 (.all (.cons 12 (.tak 13 (.tak 14 (.all (.cons 15 .done .nil)))) .nil)) .nil)) (.cons 11 (.all (.cons 8 (.all (.cons 12 (.tak 13 (.tak 14 (.all (.cons 15 .done .nil)))) .nil)) .nil)) .nil))) .nil)))))))))))) [20] [0,4,5] (by kernel_rfl) (by kernel_rfl) (by rw [hnt];rfl) ?_)|(refine AWp.draw (id:=9) tok mixed (.tak 0 (.tak 1 (.tak 2 (.tak 3 (.all (.cons 4 (.tak 5 (.tak 6 (.tak 7 (.all (.cons 8 .done .nil))))) .nil)))))) [20] [0,4,5] (by kernel_rfl) (by kernel_rfl) (by rw [hnt];rfl) ?_)|(refine AWp.draw (id:=11) tok mixed (.tak 0 (.tak 1 (.tak 2 (.tak 3 (.tak 4 (.tak 5 (.tak 6 (.tak 7 (.tak 8 (.all (.cons 9 (.tak 10 (.tak 11 (.tak 12 (.tak 13 (.all (.cons 14 .done .nil)))))) .nil))))))))))) [20] [4,5] (by kernel_rfl) (by kernel_rfl) (by rw [hnt];rfl) ?_)|refine effS_pick l hl rfl ?_ ?_ ?_ (fun x hx=>?_)|(apply gC<;>intro hq<;>(try simp only [nT,nF,n1,n0] at hq)<;>(have hb:=hq)<;>(try simp only [dT,dF,eT,eF] at hb)<;>first|(exfalso;omega)|((try simp only [hq]);clear hq)))<;>(try simp only [go_sem,qa,qb,qc,qd,qe,qf,qg,qh,qi,qj,qk,ql,qm,qn,qo,qp,qq,qr,qs,reduceIte,reduceCtorEq]))|refine Fits.of ?_ ?_|(refine aL ?_ (fun hp=>?_)<;>((try simp only [rowSet_fI hp,rowSet_fI2 hp]);(try simp only [rowSet_fB hp])))|refine aE ?_ fun hp=>?_|refine And.intro ?_ ?_|clear hK K)
 all_goals try omega
 all_goals (
   obtain ⟨oa,ob,_⟩:=wOk_iff.1 hy.1
   have ka:=knows_len (chain_ok oa).2.2.2.2.2
   have kb:=knows_len (chain_ok ob).2.2.2.2.2
   obtain ⟨a1,a2,a3,a4,a5⟩:=bank_ok (chain_ok oa).2.1
   obtain ⟨b1,b2,b3,b4,b5⟩:=bank_ok (chain_ok ob).2.1
   have a6:=parts_all a1
   have b6:=parts_all b1)
 all_goals try omega
 all_goals first
   | ((apply Exists.intro (((⟨{ y.1.a with id:=x },y.1.b⟩,false),_));apply And.intro;rotate_left;focus (refine vF [] ?_;simp only [go_sem,qa,qb,qc,qd,qe,qf,qg,qh,qi,qj,qk,ql,qm,qn,qo,qp,qq,qr,qs,reduceIte,reduceCtorEq];first|rfl|refine ⟨?_,?_⟩<;>rfl|(repeat' (apply And.intro))<;>first|rfl|trivial);try dsimp only);exact ⟨⟨near_id oa,near_ok ob⟩,by omega,by omega⟩)
   | ((apply Exists.intro (((⟨{ y.1.a with knows:=y.1.a.knows++(.cons x .nil) },y.1.b⟩,false),_));apply And.intro;rotate_left;focus (refine vF [] ?_;simp only [go_sem,qa,qb,qc,qd,qe,qf,qg,qh,qi,qj,qk,ql,qm,qn,qo,qp,qq,qr,qs,reduceIte,reduceCtorEq];first|rfl|refine ⟨?_,?_⟩<;>rfl|(repeat' (apply And.intro))<;>first|rfl|trivial);try dsimp only);exact ⟨⟨near_knows oa,near_ok ob⟩,by omega,by omega⟩)
   | ((apply Exists.intro (((⟨{ y.1.a with state:={ y.1.a.state with want:=x } },y.1.b⟩,false),_));apply And.intro;rotate_left;focus (refine vF [] ?_;simp only [go_sem,qa,qb,qc,qd,qe,qf,qg,qh,qi,qj,qk,ql,qm,qn,qo,qp,qq,qr,qs,reduceIte,reduceCtorEq];first|rfl|refine ⟨?_,?_⟩<;>rfl|(repeat' (apply And.intro))<;>first|rfl|trivial);try dsimp only);exact ⟨⟨near_want oa,near_ok ob⟩,by omega,by omega⟩)
   | ((apply Exists.intro (((⟨{ y.1.a with bank:={ y.1.a.bank with locked:=y.1.a.bank.locked+1 } },y.1.b⟩,false),_));apply And.intro;rotate_left;focus (refine vF [] ?_;simp only [go_sem,qa,qb,qc,qd,qe,qf,qg,qh,qi,qj,qk,ql,qm,qn,qo,qp,qq,qr,qs,reduceIte,reduceCtorEq];first|rfl|refine ⟨?_,?_⟩<;>rfl|(repeat' (apply And.intro))<;>first|rfl|trivial);try dsimp only);exact ⟨⟨near_locked oa,near_ok ob⟩,by omega,by omega⟩)
   | ((apply Exists.intro (((⟨y.1.a,{ y.1.b with id:=x }⟩,false),_));apply And.intro;rotate_left;focus (refine vF [] ?_;simp only [go_sem,qa,qb,qc,qd,qe,qf,qg,qh,qi,qj,qk,ql,qm,qn,qo,qp,qq,qr,qs,reduceIte,reduceCtorEq];first|rfl|refine ⟨?_,?_⟩<;>rfl|(repeat' (apply And.intro))<;>first|rfl|trivial);try dsimp only);exact ⟨⟨near_ok oa,near_id ob⟩,by omega,by omega⟩)
   | ((apply Exists.intro (((⟨y.1.a,{ y.1.b with knows:=y.1.b.knows++(.cons x .nil) }⟩,false),_));apply And.intro;rotate_left;focus (refine vF [] ?_;simp only [go_sem,qa,qb,qc,qd,qe,qf,qg,qh,qi,qj,qk,ql,qm,qn,qo,qp,qq,qr,qs,reduceIte,reduceCtorEq];first|rfl|refine ⟨?_,?_⟩<;>rfl|(repeat' (apply And.intro))<;>first|rfl|trivial);try dsimp only);exact ⟨⟨near_ok oa,near_knows ob⟩,by omega,by omega⟩)
   | ((apply Exists.intro (((⟨y.1.a,{ y.1.b with state:={ y.1.b.state with want:=x } }⟩,false),_));apply And.intro;rotate_left;focus (refine vF [] ?_;simp only [go_sem,qa,qb,qc,qd,qe,qf,qg,qh,qi,qj,qk,ql,qm,qn,qo,qp,qq,qr,qs,reduceIte,reduceCtorEq];first|rfl|refine ⟨?_,?_⟩<;>rfl|(repeat' (apply And.intro))<;>first|rfl|trivial);try dsimp only);exact ⟨⟨near_ok oa,near_want ob⟩,by omega,by omega⟩)
   | ((apply Exists.intro (((⟨y.1.a,{ y.1.b with bank:={ y.1.b.bank with locked:=y.1.b.bank.locked+1 } }⟩,false),_));apply And.intro;rotate_left;focus (refine vF [] ?_;simp only [go_sem,qa,qb,qc,qd,qe,qf,qg,qh,qi,qj,qk,ql,qm,qn,qo,qp,qq,qr,qs,reduceIte,reduceCtorEq];first|rfl|refine ⟨?_,?_⟩<;>rfl|(repeat' (apply And.intro))<;>first|rfl|trivial);try dsimp only);exact ⟨⟨near_ok oa,near_locked ob⟩,by omega,by omega⟩)
   | ((apply Exists.intro (((⟨y.1.a,y.1.b⟩,true),_));apply And.intro;rotate_left;focus (refine vF [] ?_;simp only [go_sem,qa,qb,qc,qd,qe,qf,qg,qh,qi,qj,qk,ql,qm,qn,qo,qp,qq,qr,qs,reduceIte,reduceCtorEq];first|rfl|refine ⟨?_,?_⟩<;>rfl|(repeat' (apply And.intro))<;>first|rfl|trivial);try dsimp only);exact ⟨⟨near_ok oa,near_ok ob⟩,by omega,by omega⟩)
   | ((apply Exists.intro (((⟨y.1.a,y.1.b⟩,false),_));apply And.intro;rotate_left;focus (refine vF [] ?_;simp only [go_sem,qa,qb,qc,qd,qe,qf,qg,qh,qi,qj,qk,ql,qm,qn,qo,qp,qq,qr,qs,reduceIte,reduceCtorEq];first|rfl|refine ⟨?_,?_⟩<;>rfl|(repeat' (apply And.intro))<;>first|rfl|trivial);try dsimp only);exact ⟨⟨near_ok oa,near_ok ob⟩,by omega,by omega⟩)
   | trace_state
end Go.Hw
