/- What is proved here: parts of the walk of the law and of its plain side; no condition but those that each theorem states. -/
import Derived.Test.YtjhcbnnochohpaaPS1
set_option linter.all false
set_option maxRecDepth 100000
set_option maxHeartbeats 16000000
open Int renaming reduceToNat→qk,reduceAdd→ql,reduceSub→qm,reduceNeg→qn,reduceLT→qo,reduceLE→qp,reduceEq→qq,reduceBEq→qr,reduceBNe→qs
open Nat renaming reduceDiv→qa,reduceMod→qb,reduceAdd→qc,reduceMul→qd,reduceSub→qe,reduceLeDiff→qf,reduceBEq→qg,reduceEqDiff→qh,reduceBeqDiff→qi,reduceLT→qj
open Go.Hw renaming runG_split→gR,condG_split→gC,takG_split→gT,effG_split→gE
open Go.Hw.AWp renaming region→vR,seq→vS,cond'→vC,block→vB,skip→vK,ret→vT,exit→vE
open Go.Hw.Fin renaming auto→vF
open Go.Hw.CallX renaming of→vO
namespace Go.Hw
open Go.Proofs
def tB8 (l:List Int) (i j:Nat):TV:=if j=0 then .v (.int .u8 (l.getD i 0)) else nixT
abbrev bytesT (l:List Int):TV:=.sl 1 l.length (tB8 l)
@[go_sem] theorem tB8_zero (l:List Int) (i:Nat):tB8 l i 0=.v (.int .u8 (l.getD i 0)):=rfl
def rdH (l:List Int) (p:Int) (h:Nat):Heap:=[(h,.box [.t (bytesT l),.t (.v (.int .i64 p))])]
attribute [go_sem] rdH
def Bytes (l:List Int):Prop:=l.length≤2000∧∀ i,0≤l.getD i 0∧l.getD i 0≤255
theorem xor_nonneg {a b:Int} (h1:0≤a) (h2:a < 4611686018427387904) (h3:0≤b) (h4:b < 4611686018427387904):0≤xorI a b:=by
 unfold xorI
 have e1:(BitVec.ofInt 64 a).toNat < 2 ^ 62:=by
   rw [BitVec.toNat_ofInt]
   omega
 have e2:(BitVec.ofInt 64 b).toNat < 2 ^ 62:=by
   rw [BitVec.toNat_ofInt]
   omega
 have e3:(BitVec.ofInt 64 a ^^^ BitVec.ofInt 64 b).toNat < 2 ^ 62:=by
   rw [BitVec.toNat_xor]
   exact Nat.xor_lt_two_pow e1 e2
 generalize (BitVec.ofInt 64 a ^^^ BitVec.ofInt 64 b).toNat=q at e3
 rw [wrap_fits (k:=.i64) ⟨by show (-9223372036854775808:Int)≤_;omega,by show _≤(9223372036854775807:Int);omega⟩]
 omega
theorem l6Open_ok (l:List Int) (h:l.length≤2000):Call Try.prog 19 [.c (.t (bytesT l))] [] 0 (.o (.c (.ptr 0 0 0 0))) (rdH l 0 0) 1:=by
 refine vO tok Try.func19 rfl rfl Try.ntmps19 Try.results19 rfl (by decide) (fun cx hnt hk0=>?_)
 repeat' (first|refine vS fun K hK=>?_|refine hK _ ?_;clear hK K|refine hY ?_;clear hX hY X Y|((first|refine vR tok (by rw [hnt];rfl) ?_|refine vC fun X Y hX hY=>?_|refine vK ?_|refine vT ?_|refine vF [] ?_|(apply gC<;>intro hq<;>(try simp only [nT,nF,n1,n0] at hq)<;>(have hb:=hq)<;>(try simp only [dT,dF,eT,eF] at hb)<;>first|(exfalso;omega)|((try simp only [hq]);clear hq)))<;>(try simp only [go_sem,qa,qb,qc,qd,qe,qf,qg,qh,qi,qj,qk,ql,qm,qn,qo,qp,qq,qr,qs,reduceIte,reduceCtorEq])))
 all_goals first|omega
theorem pick_ok (l:List Int) (p n:Int) (hl:Bytes l) (h0:0≤p) (h9:p≤1000000) (hn:n≤1000000):CallX (α:=Int) Try.prog 51 [.c (.ptr 0 0 0 0),I n] (rdH l p 0) 1 (fun x=>0≤x∧(x < n ∨ x=0)) (fun x=>.o (I x)) (fun _=>rdH l (p+1) 0) 1:=by
 obtain ⟨hl1,hl2⟩:=hl
 have u1:=hl2 p.toNat
 have u2:=hl2 (p % l.length).toNat
 have u3:=hl2 ((p * 7+3) % l.length).toNat
 have m1:¬ (l.length:Int)=0→0≤p % l.length∧p % l.length < l.length:=fun h=>⟨Int.emod_nonneg _ h,Int.emod_lt_of_pos _ (by omega)⟩
 have m2:¬ (l.length:Int)=0→0≤(p * 7+3) % l.length∧(p * 7+3) % l.length < l.length:=fun h=>⟨Int.emod_nonneg _ h,Int.emod_lt_of_pos _ (by omega)⟩
 have m3:0≤p / l.length∧p / l.length≤p:=⟨Int.ediv_nonneg h0 (by omega),Int.ediv_le_self _ h0⟩
 have m4:∀ x:Int,¬ n < 1→0≤x % n∧(x % n < n ∨ x % n=0):=fun x h=>⟨Int.emod_nonneg _ (by omega),.inl (Int.emod_lt_of_pos _ (by omega))⟩
 generalize ed:l.getD p.toNat 0=d1 at u1
 generalize ee:l.getD (p % l.length).toNat 0=d2 at u2
 generalize ef:l.getD ((p * 7+3) % l.length).toNat 0=d3 at u3
 generalize eg:p % (l.length:Int)=r1 at m1 ee
 generalize eh:(p * 7+3) % (l.length:Int)=r2 at m2 ef
 generalize ei:p / (l.length:Int)=r3 at m3
 refine vO tok Try.func51 rfl rfl Try.ntmps51 Try.results51 rfl (by decide) (fun cx hnt hk0=>?_)

 repeat' (first|refine vS fun K hK=>?_|refine hK _ ?_;clear hK K|refine hX ?_;clear hX hY X Y|refine hY ?_;clear hX hY X Y|((first|refine vR tok (by rw [hnt];rfl) ?_|refine vC fun X Y hX hY=>?_|refine vK ?_|refine vT ?_|(refine AWp.draw (id:=7) tok mixed (.tak 0 (.tak 1 (.tak 2 (.tak 3 (.tak 4 (.tak 5 (.tak 6 (.tak 7 (.tak 8 (.tak 9 (.tak 10 (.tak 11 (.tak 12 (.tak 13 (.tak 14 (.tak 15 (.tak 16 (.tak 17 (.tak 18 (.tak 19 (.tak 20 (.tak 21 (.tak 22 (.tak 23 (.tak 24 (.tak 25 (.tak 26 (.tak 27 (.tak 28 (.tak 29 (.tak 30 (.tak 31 (.tak 32 (.tak 33 (.tak 34 (.tak 35 (.tak 36 (.tak 37 (.tak 38 (.tak 39 (.tak 40 (.tak 41 (.tak 42 (.tak 43 (.tak 44 (.tak 45 .done)))))))))))))))))))))))))))))))))))))))))))))) [0] [0,5] (by kernel_rfl) (by kernel_rfl) (by rw [hnt];rfl) ?_)|((first|apply gR|apply gC)<;>intro hq<;>(try simp only [nT,nF,n1,n0] at hq)<;>(have hb:=hq)<;>(try simp only [dT,dF,eT,eF] at hb)<;>first|(exfalso;omega)|((try simp only [hq]);clear hq)))<;>(try simp only [go_sem,qa,qb,qc,qd,qe,qf,qg,qh,qi,qj,qk,ql,qm,qn,qo,qp,qq,qr,qs,reduceIte,reduceCtorEq,Int.add_sub_cancel,ed,ee,ef,eg,eh,ei]))|refine Fits.of ?_ ?_|(refine aL ?_ (fun hp=>?_)<;>((try simp only [rowSet_fI hp,rowSet_fI2 hp]);(try simp only [rowSet_fB hp])))|refine aE ?_ fun hp=>?_|refine aC ?_ fun hp=>?_|refine And.intro ?_ ?_|clear hK K)
 all_goals try omega
 all_goals try (refine xor_nonneg ?_ ?_ ?_ ?_<;>omega)
 all_goals ((apply Exists.intro;apply And.intro;rotate_left;focus (refine vF [] ?_;simp only [go_sem,qa,qb,qc,qd,qe,qf,qg,qh,qi,qj,qk,ql,qm,qn,qo,qp,qq,qr,qs,reduceIte,reduceCtorEq];first|rfl|refine ⟨?_,?_⟩<;>rfl|(repeat' (apply And.intro))<;>first|rfl|trivial);try dsimp only))
 all_goals first|omega|exact m4 _ (by omega)
section
variable {P:Program} {ti:Nat→Option TI} {c:Ctx} {Q:Exit→St→Prop} {s:St}
theorem AWp.join {α:Type} (J:α→St) (p:α→Prop) {x y:Code} (hx:AWp P c x (thenQ (fun s'=>∃ a,p a∧SLe c s' (J a)) Q) s) (hy:∀ a,p a→AWp P c y Q (J a)):AWp P c (.seq x y) Q s:=by
 refine vS fun K hK=>AWp.mono hx fun e s' h=>?_
 cases e with
 | normal=>obtain ⟨a,ha,hs⟩:=h;exact hK s' (AWp.le hs (hy a ha))
 | _=>exact h
end
theorem hsub_one {N h:Nat} {H:Heap} {l:List Cell} (hl:look h H=some (.box l)) (hf:All2 (cle [] (fun _=>False) [] N) l l):hsub N H [(h,.box l)]:=by
 simp only [hsub,hl]
 exact ⟨hf,trivial⟩
theorem rd_self {N:Nat} {l:List Int} {p:Int}:All2 (cle [] (fun _=>False) [] N) [.t (bytesT l),.t (.v (.int .i64 p))] [.t (bytesT l),.t (.v (.int .i64 p))]:=by
 simp [All2,cle_t,tof_t,tle_refl]
section
variable {ops:List Oper} {rest:List Oper} {s:St} {K:St→Prop} {dst:Option Nat} {hr:Heap} {n0:Nat} {r:Plan} {to:List (Nat × AV)}
theorem ACall.pick (l:List Int) (hl:Bytes l) {p n:Int} {h:Nat} {K:AV→Heap→Nat→Prop} (hlook:look h s.h=some (.box [.t (bytesT l),.t (.v (.int .i64 p))])) (h0:0≤p∧p≤1000000) (hn:n≤1000000) (hh:h < s.nx)
   (hK:∀ x,0≤x∧(x < n ∨ x=0)→K (.o (I x)) ((h,.box [.t (bytesT l),.t (.v (.int .i64 (p+1)))]) ::rem h s.h) s.nx):ACall Try.prog 51 [.c (.ptr h 0 0 0),I n] s K:=by
 have e1:rnF [h] s.nx 0=h:=rfl
 have e2:∀ q:Int,hren (rnF [h] s.nx) (rdH l q 0)=[(h,.box [.t (bytesT l),.t (.v (.int .i64 q))])]:=fun q=>rfl
 refine ACall.at [h] (pick_ok l p n hl h0.1 h0.2 hn) rfl ⟨hh,trivial⟩ ?_ ?_
 · rw [e2];exact hsub_one hlook rd_self
 · intro x hx
   rw [e2,e2]
   exact hK x hx
theorem runS_pick (l:List Int) (hl:Bytes l) {p n:Int} {h:Nat} (hlook:look h s.h=some (.box [.t (bytesT l),.t (.v (.int .i64 p))])) (h0:0≤p∧p≤1000000) (hn:n≤1000000) (hh:h < s.nx)
   (hK:∀ x,0≤x∧(x < n ∨ x=0)→runR Try.prog ti ops rest ({ s with h:=(h,.box [.t (bytesT l),.t (.v (.int .i64 (p+1)))]) ::rem h s.h }.put dst (.o (I x))) K):runS Try.prog ti ops dst rest s K (.call 51 [.c (.ptr h 0 0 0),I n]) :=
 runS_call (ACall.pick l hl hlook h0 hn hh hK)
theorem effS_pick (l:List Int) (hl:Bytes l) {p n:Int} {h:Nat} (hlook:look h s.h=some (.box [.t (bytesT l),.t (.v (.int .i64 p))])) (h0:0≤p∧p≤1000000) (hn:n≤1000000) (hh:h < s.nx)
   (hK:∀ x,0≤x∧(x < n ∨ x=0)→runP Try.prog ti ops hr n0 r to ({ s with h:=(h,.box [.t (bytesT l),.t (.v (.int .i64 (p+1)))]) ::rem h s.h }.put dst (.o (I x))) K):effS Try.prog ti ops hr n0 dst r to s K (.call 51 [.c (.ptr h 0 0 0),I n]) :=
 effS_call (ACall.pick l hl hlook h0 hn hh hK)
end
theorem l6Open_long (l:List Int) (h:2000 < l.length) (h2:(l.length:Int)≤1048576):Call Try.prog 19 [.c (.t (bytesT l))] [] 0 (.o (.c (.ptr 0 0 0 0))) (rdH (l.take 2000) 0 0) 1:=by
 have e:(l.take 2000).length=2000:=by rw [List.length_take];omega
 refine vO tok Try.func19 rfl rfl Try.ntmps19 Try.results19 rfl (by decide) (fun cx hnt hk0=>?_)
 repeat' (first|refine vS fun K hK=>?_|refine hK _ ?_;clear hK K|refine hX ?_;clear hX hY X Y|((first|refine vR tok (by rw [hnt];rfl) ?_|refine vC fun X Y hX hY=>?_|refine vT ?_|refine vF [] ?_|(apply gC<;>intro hq<;>(try simp only [nT,nF,n1,n0] at hq)<;>(have hb:=hq)<;>(try simp only [dT,dF,eT,eF] at hb)<;>first|(exfalso;omega)|((try simp only [hq]);clear hq)))<;>(try simp only [go_sem,qa,qb,qc,qd,qe,qf,qg,qh,qi,qj,qk,ql,qm,qn,qo,qp,qq,qr,qs,reduceIte,reduceCtorEq,e]))|refine aE ?_ fun hp=>?_|clear hK K)
 all_goals try omega
 intro i hi j hj
 have e2:(l.take 2000).getD i 0=l.getD i 0:=by
   unfold List.getD;rw [List.getElem?_take,if_pos hi]
 unfold tB8
 rw [e2]
 simp [tle_refl]
end Go.Hw
