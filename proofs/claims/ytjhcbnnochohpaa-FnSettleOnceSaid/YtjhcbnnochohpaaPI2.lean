/- What is proved here: parts of the walk of the law and of its plain side; no condition but those that each theorem states. -/
import Derived.Test.YtjhcbnnochohpaaPE1
import Derived.Test.YtjhcbnnochohpaaPI1
import Derived.Test.YtjhcbnnochohpaaPS3
import Derived.Test.YtjhcbnnochohpaaPW124
set_option linter.all false
set_option maxRecDepth 100000
set_option maxHeartbeats 16000000
open Int renaming reduceToNat→qk,reduceAdd→ql,reduceSub→qm,reduceNeg→qn,reduceLT→qo,reduceLE→qp,reduceEq→qq,reduceBEq→qr,reduceBNe→qs
open Nat renaming reduceDiv→qa,reduceMod→qb,reduceAdd→qc,reduceMul→qd,reduceSub→qe,reduceLeDiff→qf,reduceBEq→qg,reduceEqDiff→qh,reduceBeqDiff→qi,reduceLT→qj
open Go.Hw renaming runG_split→gR,condG_split→gC,takG_split→gT,effG_split→gE
open Go.Hw.AWp renaming region→vR,seq→vS,cond'→vC,block→vB,skip→vK,ret→vT,exit→vE
open Go.Hw.Fin renaming auto→vF
open Go.Hw.CallX renaming of→vO
namespace Go.Hw
open Go.Proofs
theorem DrawRelayLate_from (l code:List Int) (hl:Bytes l) (cO:Call Try.prog 19 [.c (.t (bytesT code))] [] 0 (.o (.c (.ptr 0 0 0 0))) (rdH l 0 0) 1) :
   CallX (α:=(Chain × State) × (Int × Int)) Try.prog 5 [.c (.t (bytesT code))] [] 0 (fun x=>x.1.1.near∧x.1.2.nearS) (fun x=>.tup [x.1.1.av,x.1.2.av,I x.2.1,I x.2.2]) (fun _=>[]) 0:=by
 refine vO tok Try.func5 rfl rfl Try.ntmps5 Try.results5 rfl (by decide) (fun cx hnt hk0=>?_)

 repeat' (first|refine vS fun K hK=>?_|refine hK _ ?_;clear hK K|((first|refine vR tok (by rw [hnt];rfl) ?_|refine vT ?_|refine runS_c [] (cO) rfl ?_ ?_ ?_|(refine runS_at [_] (l72Relay_ok l hl) rfl ?_ ?_ (fun y hy=>?_))|(refine AWp.draw (id:=3) tok mixed (.tak 0 (.tak 1 (.tak 2 (.tak 3 (.tak 4 (.tak 5 (.all (.cons 6 (.all (.cons 7 (.tak 8 (.tak 9 .done)) .nil)) .nil)))))))) [3,4,5] [2,3,7,8,9] (by kernel_rfl) (by kernel_rfl) (by rw [hnt];rfl) ?_))<;>(try simp only [go_sem,qa,qb,qc,qd,qe,qf,qg,qh,qi,qj,qk,ql,qm,qn,qo,qp,qq,qr,qs,reduceIte,reduceCtorEq])))
 all_goals try omega
 all_goals first
   | ((apply Exists.intro (((y.1.1,y.1.2),(_,_)));apply And.intro;rotate_left;focus (refine vF [] ?_;simp only [go_sem,qa,qb,qc,qd,qe,qf,qg,qh,qi,qj,qk,ql,qm,qn,qo,qp,qq,qr,qs,reduceIte,reduceCtorEq];first|rfl|refine ⟨?_,?_⟩<;>rfl|(repeat' (apply And.intro))<;>first|rfl|trivial);try dsimp only);exact hy.1)
   | trace_state
theorem bytes_take9 {l:List Int} (hb:∀ i,0≤l.getD i 0∧l.getD i 0≤255):Bytes (l.take 2000):=by
 refine ⟨by rw [List.length_take];omega,fun i=>?_⟩
 by_cases hi:i < 2000
 · have:(l.take 2000).getD i 0=l.getD i 0:=by unfold List.getD;rw [List.getElem?_take,if_pos hi]
   rw [this];exact hb i
 · have:(l.take 2000).getD i 0=0:=by unfold List.getD;rw [List.getElem?_take,if_neg hi];rfl
   rw [this];decide
theorem DrawRelayLate_ok (l:List Int) (hb:∀ i,0≤l.getD i 0∧l.getD i 0≤255) (h2:(l.length:Int)≤1048576) :
   CallX (α:=(Chain × State) × (Int × Int)) Try.prog 5 [.c (.t (bytesT l))] [] 0 (fun x=>x.1.1.near∧x.1.2.nearS) (fun x=>.tup [x.1.1.av,x.1.2.av,I x.2.1,I x.2.2]) (fun _=>[]) 0:=by
 by_cases h:l.length≤2000
 · exact DrawRelayLate_from l l ⟨h,hb⟩ (l6Open_ok l h)
 · exact DrawRelayLate_from (l.take 2000) l (bytes_take9 hb) (l6Open_long l (by omega) h2)
theorem near_fit {c:Chain} (h:c.near):c.fit:=by
 have hs:∀ {s:State},s.nearS→s.fit:=fun hs=>by
   obtain ⟨d,hd,h1,h2,h3,h4⟩:=hs
   obtain ⟨r1,r2,r3,r4,r5,r6,_⟩:=state_ok hd
   exact ⟨by rw [h1];omega,by rw [h2];omega,by rw [h3];omega,by rw [h4];omega⟩
 have hst:=near_state h
 obtain ⟨d,hd,h1,h2,h3,h4,_,_,_,_,h5⟩:=h
 obtain ⟨q1,q2,q3,q4,q5,q6⟩:=chain_ok hd
 obtain ⟨b1,b2,b3,b4,b5⟩:=bank_ok q2
 have k1:=parts_len b1
 have k2:=parts_len b2
 have k3:=knows_len q6
 refine ⟨by rw [h2];omega,by rw [h3];omega,hs hst,fun i=>?_,by rw [h1];omega,by omega⟩
 rw [h1]
 by_cases hi:i < d.past.length
 · exact hs (nearS_ok (q5 i hi))
 · rw [getD_len (by omega)];exact ⟨by decide,by decide,by decide,by decide⟩
theorem default_fit9:(default:Chain).fit :=
 ⟨by decide,by decide,⟨by decide,by decide,by decide,by decide⟩,fun i=>by rw [getD_len (show (default:Chain).past.length≤i from Nat.zero_le _)];exact ⟨by decide,by decide,by decide,by decide⟩,by decide,by decide⟩
def State.tellIt (s:State) (seq g:Int):State:={ s with got:=s.got.set (seq - 1).toNat g }
theorem tellIt_ok {s:State} (h:s.ok=true) {seq g:Int} (hg:0≤g∧g≤2):(s.tellIt seq g).ok=true:=by
 rw [state_parts] at h ⊢
 simp only [Bool.and_eq_true] at h ⊢
 obtain ⟨h1,h2,⟨h3,h4⟩,h5⟩:=h
 refine ⟨h1,h2,⟨h3,?_⟩,h5⟩
 unfold State.gotP State.tellIt at *
 simp only [Bool.and_eq_true,decide_eq_true_eq,rall_iff,List.length_set,In_iff] at h4 ⊢
 refine ⟨h4.1,fun i hi=>?_⟩
 have:=h4.2 i hi
 by_cases e:(seq - 1).toNat=i
 · subst e;rw [List.getD_eq_getElem?_getD,List.getElem?_set_self hi];exact hg
 · have e2:(s.got.set (seq - 1).toNat g).getD i 0=s.got.getD i 0:=by
     rw [List.getD_eq_getElem?_getD,List.getElem?_set_ne e,← List.getD_eq_getElem?_getD]
   rw [e2];exact this
theorem late_then {c:Chain} {s:State} {h seq:Int} (hc:c.ok=true) (hB:c.lateB s h seq=true):(c.late s h seq).mine seq=false:=by
 obtain ⟨_,_,q3,_⟩:=chain_ok hc
 obtain ⟨r1,r2,r3,r4,r5,r6,_⟩:=state_ok q3
 unfold Chain.late
 rw [if_pos hB]
 unfold Chain.lateB Chain.mine at hB
 simp only [Bool.and_eq_true,In_iff] at hB
 unfold Chain.mine Chain.settle
 simp only
 have hi:(seq - 1).toNat < c.state.live.length:=by omega
 have e:(c.state.live.set (seq - 1).toNat false).getD (seq - 1).toNat false=false:=by
   rw [List.getD_eq_getElem?_getD,List.getElem?_set_self hi];rfl
 rw [e,Bool.and_false]
end Go.Hw
