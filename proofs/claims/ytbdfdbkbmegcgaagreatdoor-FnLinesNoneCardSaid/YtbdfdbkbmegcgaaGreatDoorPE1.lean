/- What is proved here: parts of the walk of the law and of its plain side; no condition but those that each theorem states. -/
import Derived.Test.YtbdfdbkbmegcgaaGreatDoorPD1
import Derived.Test.YtbdfdbkbmegcgaaGreatDoorPS1
import Derived.Test.YtbdfdbkbmegcgaaGreatDoorPS2
set_option linter.all false
set_option maxRecDepth 100000
set_option maxHeartbeats 16000000
open Int renaming reduceToNat→qk,reduceAdd→ql,reduceSub→qm,reduceNeg→qn,reduceLT→qo,reduceLE→qp,reduceEq→qq,reduceBEq→qr,reduceBNe→qs
open Nat renaming reduceDiv→qa,reduceMod→qb,reduceAdd→qc,reduceMul→qd,reduceSub→qe,reduceLeDiff→qf,reduceBEq→qg,reduceEqDiff→qh,reduceBeqDiff→qi,reduceLT→qj
open Go.Hw renaming runG_split→gR,condG_split→gC,takG_split→gT,effG_split→gE
open Go.Hw.AWp renaming region→vR,seq→vS,cond'→vC,block→vB,skip→vK,ret→vT,exit→vE
open Go.Hw.Fin renaming auto→vF
open Go.Hw.SLe renaming auto→vL
open Go.Hw.CallX renaming of→vO
namespace Go.Hw
open Go.Proofs
def tB8 (l:List Int) (i j:Nat):TV:=if j=0 then .v (.int .u8 (l.getD i 0)) else nixT
abbrev bytesT (l:List Int):TV:=.sl 1 l.length (tB8 l)
@[go_sem] theorem tB8_zero (l:List Int) (i:Nat):tB8 l i 0=.v (.int .u8 (l.getD i 0)):=rfl
def rdH (l:List Int) (p:Int) (h:Nat):Heap:=[(h,.box [.t (bytesT l),.t (.v (.int .i64 p))])]
attribute [go_sem] rdH
def Bytes (l:List Int):Prop:=l.length≤2000∧∀ i,0≤l.getD i 0∧l.getD i 0≤255
theorem xor_nonneg {a b:Int} (h1:0≤a) (h2:a < 4611686018427387904) (h3:0≤b) (h4:b < 4611686018427387904):0≤xorI a b:=by
 unfold xorI
 have e1:(BitVec.ofInt 64 a).toNat < 2 ^ 62:=by
   rw [BitVec.toNat_ofInt]
   omega
 have e2:(BitVec.ofInt 64 b).toNat < 2 ^ 62:=by
   rw [BitVec.toNat_ofInt]
   omega
 have e3:(BitVec.ofInt 64 a ^^^ BitVec.ofInt 64 b).toNat < 2 ^ 62:=by
   rw [BitVec.toNat_xor]
   exact Nat.xor_lt_two_pow e1 e2
 generalize (BitVec.ofInt 64 a ^^^ BitVec.ofInt 64 b).toNat=q at e3
 rw [wrap_fits (k:=.i64) ⟨by show (-9223372036854775808:Int)≤_;omega,by show _≤(9223372036854775807:Int);omega⟩]
 omega
theorem l6Open_ok (l:List Int) (h:l.length≤2000):Call Tryz.prog 16 [.c (.t (bytesT l))] [] 0 (.o (.c (.ptr 0 0 0 0))) (rdH l 0 0) 1:=by
 refine vO tok Tryz.func16 rfl rfl Tryz.ntmps16 Tryz.results16 rfl (by decide) (fun cx hnt hk0=>?_)
 repeat' (first|refine vS fun K hK=>?_|refine hK _ ?_;clear hK K|refine hY ?_;clear hX hY X Y|((first|refine vR tok (by rw [hnt];rfl) ?_|refine vC fun X Y hX hY=>?_|refine vK ?_|refine vT ?_|refine vF [] ?_|(apply gC<;>intro hq<;>(try simp only [nT,nF,n1,n0] at hq)<;>(have hb:=hq)<;>(try simp only [dT,dF,eT,eF] at hb)<;>first|(exfalso;omega)|((try simp only [hq]);clear hq)))<;>(try simp only [go_sem,qa,qb,qc,qd,qe,qf,qg,qh,qi,qj,qk,ql,qm,qn,qo,qp,qq,qr,qs,reduceIte,reduceCtorEq])))
 all_goals first|omega
theorem pick_ok (l:List Int) (p n:Int) (hl:Bytes l) (h0:0≤p) (h9:p≤1000000) (hn:n≤1000000):CallX (α:=Int) Tryz.prog 17 [.c (.ptr 0 0 0 0),I n] (rdH l p 0) 1 (fun x=>0≤x∧(x < n ∨ x=0)) (fun x=>.o (I x)) (fun _=>rdH l (p+1) 0) 1:=by
 obtain ⟨hl1,hl2⟩:=hl
 have u1:=hl2 p.toNat
 have u2:=hl2 (p % l.length).toNat
 have u3:=hl2 ((p * 7+3) % l.length).toNat
 have m1:¬ (l.length:Int)=0→0≤p % l.length∧p % l.length < l.length:=fun h=>⟨Int.emod_nonneg _ h,Int.emod_lt_of_pos _ (by omega)⟩
 have m2:¬ (l.length:Int)=0→0≤(p * 7+3) % l.length∧(p * 7+3) % l.length < l.length:=fun h=>⟨Int.emod_nonneg _ h,Int.emod_lt_of_pos _ (by omega)⟩
 have m3:0≤p / l.length∧p / l.length≤p:=⟨Int.ediv_nonneg h0 (by omega),Int.ediv_le_self _ h0⟩
 have m4:∀ x:Int,¬ n < 1→0≤x % n∧(x % n < n ∨ x % n=0):=fun x h=>⟨Int.emod_nonneg _ (by omega),.inl (Int.emod_lt_of_pos _ (by omega))⟩
 generalize ed:l.getD p.toNat 0=d1 at u1
 generalize ee:l.getD (p % l.length).toNat 0=d2 at u2
 generalize ef:l.getD ((p * 7+3) % l.length).toNat 0=d3 at u3
 generalize eg:p % (l.length:Int)=r1 at m1 ee
 generalize eh:(p * 7+3) % (l.length:Int)=r2 at m2 ef
 generalize ei:p / (l.length:Int)=r3 at m3
 refine vO tok Tryz.func17 rfl rfl Tryz.ntmps17 Tryz.results17 rfl (by decide) (fun cx hnt hk0=>?_)

 repeat' (first|refine vS fun K hK=>?_|refine hK _ ?_;clear hK K|refine hX ?_;clear hX hY X Y|refine hY ?_;clear hX hY X Y|((first|refine vR tok (by rw [hnt];rfl) ?_|refine vC fun X Y hX hY=>?_|refine vK ?_|refine vT ?_|(refine AWp.draw (id:=7) tok mixed (.tak 0 (.tak 1 (.tak 2 (.tak 3 (.tak 4 (.tak 5 (.tak 6 (.tak 7 (.tak 8 (.tak 9 (.tak 10 (.tak 11 (.tak 12 (.tak 13 (.tak 14 (.tak 15 (.tak 16 (.tak 17 (.tak 18 (.tak 19 (.tak 20 (.tak 21 (.tak 22 (.tak 23 (.tak 24 (.tak 25 (.tak 26 (.tak 27 (.tak 28 (.tak 29 (.tak 30 (.tak 31 (.tak 32 (.tak 33 (.tak 34 (.tak 35 (.tak 36 (.tak 37 (.tak 38 (.tak 39 (.tak 40 (.tak 41 (.tak 42 (.tak 43 (.tak 44 (.tak 45 .done)))))))))))))))))))))))))))))))))))))))))))))) [0] [0,5] (by kernel_rfl) (by kernel_rfl) (by rw [hnt];rfl) ?_)|((first|apply gR|apply gC)<;>intro hq<;>(try simp only [nT,nF,n1,n0] at hq)<;>(have hb:=hq)<;>(try simp only [dT,dF,eT,eF] at hb)<;>first|(exfalso;omega)|((try simp only [hq]);clear hq)))<;>(try simp only [go_sem,qa,qb,qc,qd,qe,qf,qg,qh,qi,qj,qk,ql,qm,qn,qo,qp,qq,qr,qs,reduceIte,reduceCtorEq,Int.add_sub_cancel,ed,ee,ef,eg,eh,ei]))|refine Fits.of ?_ ?_|refine aL ?_ fun hp=>?_|refine aE ?_ fun hp=>?_|refine aC ?_ fun hp=>?_|refine And.intro ?_ ?_|clear hK K)
 all_goals try omega
 all_goals try (refine xor_nonneg ?_ ?_ ?_ ?_<;>omega)
 all_goals ((apply Exists.intro;apply And.intro;rotate_left;focus (refine vF [] ?_;simp only [go_sem,qa,qb,qc,qd,qe,qf,qg,qh,qi,qj,qk,ql,qm,qn,qo,qp,qq,qr,qs,reduceIte,reduceCtorEq];first|rfl|refine ⟨?_,?_⟩<;>rfl|(repeat' (apply And.intro))<;>first|rfl|trivial);try dsimp only))
 all_goals first|omega|exact m4 _ (by omega)
section
variable {P:Program} {ti:Nat→Option TI} {c:Ctx} {Q:Exit→St→Prop} {s:St}
end
theorem hsub_one {N h:Nat} {H:Heap} {l:List Cell} (hl:look h H=some (.box l)) (hf:All2 (cle [] (fun _=>False) [] N) l l):hsub N H [(h,.box l)]:=by
 simp only [hsub,hl]
 exact ⟨hf,trivial⟩
theorem rd_self {N:Nat} {l:List Int} {p:Int}:All2 (cle [] (fun _=>False) [] N) [.t (bytesT l),.t (.v (.int .i64 p))] [.t (bytesT l),.t (.v (.int .i64 p))]:=by
 simp [All2,cle_t,tof_t,tle_refl]
section
variable {ops:List Oper} {rest:List Oper} {s:St} {K:St→Prop} {dst:Option Nat} {hr:Heap} {n0:Nat} {r:Plan} {to:List (Nat × AV)}
theorem ACall.pick (l:List Int) (hl:Bytes l) {p n:Int} {h:Nat} {K:AV→Heap→Nat→Prop} (hlook:look h s.h=some (.box [.t (bytesT l),.t (.v (.int .i64 p))])) (h0:0≤p∧p≤1000000) (hn:n≤1000000) (hh:h < s.nx)
   (hK:∀ x,0≤x∧(x < n ∨ x=0)→K (.o (I x)) ((h,.box [.t (bytesT l),.t (.v (.int .i64 (p+1)))]) ::rem h s.h) s.nx):ACall Tryz.prog 17 [.c (.ptr h 0 0 0),I n] s K:=by
 have e1:rnF [h] s.nx 0=h:=rfl
 have e2:∀ q:Int,hren (rnF [h] s.nx) (rdH l q 0)=[(h,.box [.t (bytesT l),.t (.v (.int .i64 q))])]:=fun q=>rfl
 refine ACall.at [h] (pick_ok l p n hl h0.1 h0.2 hn) rfl ⟨hh,trivial⟩ ?_ ?_
 · rw [e2];exact hsub_one hlook rd_self
 · intro x hx
   rw [e2,e2]
   exact hK x hx
theorem runS_pick (l:List Int) (hl:Bytes l) {p n:Int} {h:Nat} (hlook:look h s.h=some (.box [.t (bytesT l),.t (.v (.int .i64 p))])) (h0:0≤p∧p≤1000000) (hn:n≤1000000) (hh:h < s.nx)
   (hK:∀ x,0≤x∧(x < n ∨ x=0)→runR Tryz.prog ti ops rest ({ s with h:=(h,.box [.t (bytesT l),.t (.v (.int .i64 (p+1)))]) ::rem h s.h }.put dst (.o (I x))) K):runS Tryz.prog ti ops dst rest s K (.call 17 [.c (.ptr h 0 0 0),I n]) :=
 runS_call (ACall.pick l hl hlook h0 hn hh hK)
end
theorem l6Open_long (l:List Int) (h:2000 < l.length) (h2:(l.length:Int)≤1048576):Call Tryz.prog 16 [.c (.t (bytesT l))] [] 0 (.o (.c (.ptr 0 0 0 0))) (rdH (l.take 2000) 0 0) 1:=by
 have e:(l.take 2000).length=2000:=by rw [List.length_take];omega
 refine vO tok Tryz.func16 rfl rfl Tryz.ntmps16 Tryz.results16 rfl (by decide) (fun cx hnt hk0=>?_)
 repeat' (first|refine vS fun K hK=>?_|refine hK _ ?_;clear hK K|refine hX ?_;clear hX hY X Y|((first|refine vR tok (by rw [hnt];rfl) ?_|refine vC fun X Y hX hY=>?_|refine vT ?_|refine vF [] ?_|(apply gC<;>intro hq<;>(try simp only [nT,nF,n1,n0] at hq)<;>(have hb:=hq)<;>(try simp only [dT,dF,eT,eF] at hb)<;>first|(exfalso;omega)|((try simp only [hq]);clear hq)))<;>(try simp only [go_sem,qa,qb,qc,qd,qe,qf,qg,qh,qi,qj,qk,ql,qm,qn,qo,qp,qq,qr,qs,reduceIte,reduceCtorEq,e]))|refine aE ?_ fun hp=>?_|clear hK K)
 all_goals try omega
 intro i hi j hj
 have e2:(l.take 2000).getD i 0=l.getD i 0:=by
   unfold List.getD;rw [List.getElem?_take,if_pos hi]
 unfold tB8
 rw [e2]
 simp [tle_refl]
end Go.Hw
namespace Go.Hw
theorem linesT_long {s:Str} (h:600 < s.length):linesT s=tooLong:=by unfold linesT;rw [if_pos h]
theorem linesT_nl {s:Str} (h:s.length≤600):∃ x y,linesT s=x++[10]++(y++[10]):=by
 unfold linesT;rw [if_neg (by omega)]
 generalize runL Two.new (cut 10 s).dropLast=p
 refine ⟨p.2++(p.1.a.head++setsT p.1.a.state p.1.a.state.sent.length),p.1.b.head++setsT p.1.b.state p.1.b.state.sent.length,?_⟩
 unfold Two.text Chain.text
 simp only [List.append_assoc]
def Lined (s:Str):Prop:=s=[] ∨ ∃ t,s=t++[10]
theorem foldl_cut_app (c:UInt8):∀ (s:Str) (out l:List Str),l ≠ []→s.foldl (cutStep c) (out++l)=out++s.foldl (cutStep c) l
 | [],_,_,_=>rfl
 | b ::s,out,l,h=>by
   have hl:0 < l.length:=List.length_pos_iff.2 h
   have e:cutStep c (out++l) b=out++cutStep c l b:=by
     unfold cutStep
     by_cases hb:b=c
     · rw [if_pos hb,if_pos hb,List.append_assoc]
     · rw [if_neg hb,if_neg hb,List.length_append]
       have e1:out.length+l.length - 1=out.length+(l.length - 1):=by omega
       rw [e1,List.set_append_right _ _ (by omega)]
       congr 2
       · omega
       · unfold List.getD
         rw [List.getElem?_append_right (by omega)]
         congr 3;omega
   have hn:cutStep c l b ≠ []:=by
     unfold cutStep;split
     · simp
     · simpa using h
   rw [List.foldl_cons,List.foldl_cons,e,foldl_cut_app c s out _ hn]
theorem cut_lined {s:Str} (h:Lined s) (r:Str):cut 10 (s++r)=(cut 10 s).dropLast++cut 10 r:=by
 rcases h with rfl|⟨t,rfl⟩
 · rfl
 · have e:cut 10 (t++[10])=cut 10 t++[[]]:=by rw [cut_snoc];unfold cutStep;rw [if_pos rfl]
   rw [e,List.dropLast_concat]
   unfold cut at e ⊢
   rw [List.foldl_append,e]
   exact foldl_cut_app 10 r _ [[]] (by simp)
theorem linesT_ask {s x:Str} (h:Lined s) (hs:s.length+x.length≤599) (hx:10 ∉ x) (hd:∀ w,lineDo w x=w) :
   linesT (s++(x++[10]))=(runL Two.new (cut 10 s).dropLast).2++lineOut (runL Two.new (cut 10 s).dropLast).1 x++(runL Two.new (cut 10 s).dropLast).1.text:=by
 have e1:cut 10 (x++[10])=[x]++[[]]:=by
   rw [cut_eq];have:=cutR_app (c:=10) (x:=x) (r:=[]) hx;simpa [cutR] using this
 have e2:(cut 10 (s++(x++[10]))).dropLast=(cut 10 s).dropLast++[x]:=by
   rw [cut_lined h,e1,← List.append_assoc,List.dropLast_concat]
 have e3:linesT (s++(x++[10]))=(runL Two.new (cut 10 (s++(x++[10]))).dropLast).2++(runL Two.new (cut 10 (s++(x++[10]))).dropLast).1.text:=by
   unfold linesT;rw [if_neg (by simp only [List.length_append,List.length_cons,List.length_nil];omega)]
 rw [e3,e2,runL_snoc,hd]
abbrev txWhat:Str:=[119,104,97,116]
abbrev txSee:Str:=[115,101,101]
theorem do_what (w:Two):lineDo w txWhat=w∧lineOut w txWhat=wWhat:=by
 have h1:isEv ((cut 32 txWhat).getD 0 [])=false:=by decide +kernel
 have h2:¬ (cut 32 txWhat).getD 0 []=wCalm:=by decide +kernel
 have h3:¬ (cut 32 txWhat).getD 0 []=wSee:=by decide +kernel
 unfold lineDo lineOut
 dsimp only
 rw [h1]
 simp only [if_neg h2,if_neg h3,Bool.false_eq_true,if_false,and_self]
theorem do_see (w:Two):lineDo w txSee=w∧lineOut w txSee=w.text:=by
 have h1:isEv ((cut 32 txSee).getD 0 [])=false:=by decide +kernel
 have h2:¬ (cut 32 txSee).getD 0 []=wCalm:=by decide +kernel
 have h3:(cut 32 txSee).getD 0 []=wSee:=by decide +kernel
 unfold lineDo lineOut
 dsimp only
 rw [h1]
 simp only [if_neg h2,if_pos h3,Bool.false_eq_true,if_false,and_self]
theorem linesT_what {s:Str} (h:Lined s) (hs:s.length≤580):(linesT (s++(txWhat++[10]))).length=(linesT s).length+5:=by
 rw [linesT_ask h (by simp;omega) (by decide) (fun w=>(do_what w).1),(do_what _).2]
 have e:linesT s=(runL Two.new (cut 10 s).dropLast).2++(runL Two.new (cut 10 s).dropLast).1.text:=by unfold linesT;rw [if_neg (by omega)]
 rw [e];simp only [List.length_append,wWhat,List.length_cons,List.length_nil];omega
theorem two_text_pos (w:Two):0 < w.text.length:=by
 unfold Two.text Chain.text;simp only [List.length_append,List.length_cons,List.length_nil];omega
theorem linesT_see {s:Str} (h:Lined s) (hs:s.length≤580):(linesT s).length < (linesT (s++(txSee++[10]))).length:=by
 rw [linesT_ask h (by simp;omega) (by decide) (fun w=>(do_see w).1),(do_see _).2]
 have e:linesT s=(runL Two.new (cut 10 s).dropLast).2++(runL Two.new (cut 10 s).dropLast).1.text:=by unfold linesT;rw [if_neg (by omega)]
 rw [e]
 have:=two_text_pos (runL Two.new (cut 10 s).dropLast).1
 simp only [List.length_append];omega
def nlN (s:Str) (k:Nat):Nat:=(s.take k).count 10
theorem nlN_zero (s:Str):nlN s 0=0:=rfl
theorem nlN_succ {s:Str} {k:Nat} (h:k < s.length):nlN s (k+1)=nlN s k+(if s.getD k 0=10 then 1 else 0):=by
 unfold nlN
 have e:s.getD k 0=s[k]:=by simp [List.getD,h]
 rw [List.take_succ,List.getElem?_eq_getElem h,List.count_append,e]
 simp [List.count_cons,beq_iff_eq]
theorem nlN_all (s:Str):nlN s s.length=s.count 10:=by simp [nlN]
theorem linesT_two {s:Str} (h:s.length≤600):2≤nlN (linesT s) (linesT s).length∧(linesT s).getD ((linesT s).length - 1) 0=10∧2≤(linesT s).length:=by
 obtain ⟨x,y,e⟩:=linesT_nl h
 rw [nlN_all,e]
 refine ⟨?_,?_,?_⟩
 · simp only [List.count_append,List.count_cons,List.count_nil];simp;omega
 · rw [← List.append_assoc]
   generalize x++[10]++y=z
   simp [List.getD]
 · simp only [List.length_append,List.length_cons,List.length_nil];omega
end Go.Hw
namespace Go.Hw
open Go.Proofs
attribute [local irreducible] Fits
theorem rowOf_V3 (a b c:Str):rowOf 1 [cu a,cu b,cu c]=fU [a,b,c]:=by
 funext i j;unfold rowOf fU
 rcases j with _|j
 · rcases i with _|_|_|i<;>simp [dfl,List.getD,nix]
 · simp
theorem rowOf_V8 (a b c d e f g h:Str):rowOf 1 [cu a,cu b,cu c,cu d,cu e,cu f,cu g,cu h]=fU [a,b,c,d,e,f,g,h]:=by
 funext i j;unfold rowOf fU
 rcases j with _|j
 · rcases i with _|_|_|_|_|_|_|_|i<;>simp [dfl,List.getD,nix]
 · simp
theorem decB_le2 (n:Int):(decB n).length≤2:=by unfold decB;split<;>simp
theorem of_ok (l:List Int) (p:Int) (ls:List Str) (hl:Bytes l) (h0:0≤p) (h9:p≤10000) (h1:0 < ls.length) (hn:ls.length≤100) :
   CallX (α:=Str) Tryz.prog 30 [.c (.ptr 0 0 0 0),.c (.sl 1 1 0 ls.length)] (rdH l p 0++[(1,rU ls)]) 2 (fun x=>x ∈ ls) (fun x=>.o (U x)) (fun _=>rdH l (p+1) 0++[(1,rU ls)]) 2:=by
 refine vO tok Tryz.func30 rfl rfl Tryz.ntmps30 Tryz.results30 rfl (by decide) (fun cx hnt hk0=>?_)

 repeat' (first|refine vS fun K hK=>?_|refine hK _ ?_;clear hK K|((first|refine vR tok (by rw [hnt];rfl) ?_|refine vT ?_|(refine runS_pick l hl rfl ?_ ?_ ?_ (fun x hx=>?_)))<;>(try simp only [go_sem,qa,qb,qc,qd,qe,qf,qg,qh,qi,qj,qk,ql,qm,qn,qo,qp,qq,qr,qs,reduceIte,reduceCtorEq]))|refine aL ?_ fun hp=>?_|refine aE ?_ fun hp=>?_|refine aC ?_ fun hp=>?_|clear hK K)
 all_goals try omega
 all_goals (
   refine ⟨ls.getD x.toNat [],by unfold List.getD;rw [List.getElem?_eq_getElem hp];exact List.getElem_mem _,?_⟩
   refine vF [] ?_
   simp only [go_sem,qa,qb,qc,qd,qe,qf,qg,qh,qi,qj,qk,ql,qm,qn,qo,qp,qq,qr,qs,reduceIte,reduceCtorEq])
abbrev blk:Str:=[98,108,111,99,107,32,49,10]
def rep (k:Nat):Str:=(List.replicate k blk).flatten
theorem rep_add (a b:Nat):rep (a+b)=rep a++rep b:=by unfold rep;rw [← List.replicate_append_replicate,List.flatten_append]
theorem rep_len (k:Nat):(rep k).length=8 * k:=by
 induction k with
 | zero=>rfl
 | succ k ih=>rw [rep_add,List.length_append,ih];show 8 * k+8=_;omega
theorem rep_lined (s:Str):Lined (s++rep 80):=by
 have e:rep 80=rep 79++[98,108,111,99,107,32,49]++[10]:=by rw [rep_add 79 1,List.append_assoc];rfl
 exact .inr ⟨s++(rep 79++[98,108,111,99,107,32,49]),by rw [e];simp only [List.append_assoc]⟩
def nJ:Nat→Int
 | 0=>80
 | 1=>40
 | 2=>20
 | 3=>10
 | 4=>5
 | 5=>2
 | 6=>1
 | _=>0
def sJ:Nat→Nat
 | 0=>1
 | 1=>2
 | 2=>4
 | 3=>8
 | 4=>16
 | 5=>32
 | 6=>64
 | _=>128
def oJ:Nat→Nat
 | 5=>16
 | 6=>16
 | 7=>80
 | _=>0
theorem keyJ (j:Nat) (h:j < 7):0 < nJ j∧nJ j≤80∧nJ (j+1)=nJ j / 2∧(nJ j % 2=1→oJ (j+1)=oJ j+sJ j)∧(¬ nJ j % 2=1→oJ (j+1)=oJ j)∧sJ (j+1)=sJ j+sJ j∧oJ j≤80∧sJ j≤128:=by
 match j,h with
 | 0,_=>decide
 | 1,_=>decide
 | 2,_=>decide
 | 3,_=>decide
 | 4,_=>decide
 | 5,_=>decide
 | 6,_=>decide
theorem l6Many_ok:Call Tryz.prog 19 [U blk,I 80] [] 0 (.o (U (rep 80))) [] 0:=by
 have i1:rep (sJ 0)=blk:=rfl
 have i2:rep (oJ 0)=[]:=rfl
 have i3:nJ 0=80:=rfl
 refine vO tok Tryz.func19 rfl rfl Tryz.ntmps19 Tryz.results19 rfl (by decide) (fun cx hnt hk0=>?_)
 repeat' (first|refine vS fun K hK=>?_|refine hK _ ?_;clear hK K|refine vB ?_|((refine vR tok (by rw [hnt];rfl) ?_)<;>(try simp only [go_sem,qa,qb,qc,qd,qe,qf,qg,qh,qi,qj,qk,ql,qm,qn,qo,qp,qq,qr,qs,reduceIte,reduceCtorEq])))
 refine AWp.loop (fun j:Nat=>⟨[(0,.o (U (rep (sJ j)))),(1,.o (I (nJ j))),(5,.o (U (rep (oJ j))))],[],0⟩) (fun j=>j≤7) (fun j=>7 - j) 0 (Nat.zero_le _) ?_ ?_
 · refine vL hk0 [] ?_;simp only [go_sem,qa,qb,qc,qd,qe,qf,qg,qh,qi,qj,qk,ql,qm,qn,qo,qp,qq,qr,qs,reduceIte,reduceCtorEq,i1,i2,i3]
 intro j hj
 have hj':j≤7:=hj
 by_cases h7:j < 7
 · obtain ⟨k1,k2,k3,k4,k5,k6,k7,k8⟩:=keyJ j h7
   have q1:=rep_len (oJ j)
   have q2:=rep_len (sJ j)
   have e2:rep (sJ (j+1))=rep (sJ j)++rep (sJ j):=by rw [k6,rep_add]
   by_cases hm:nJ j % 2=1
   · have e1:rep (oJ (j+1))=rep (oJ j)++rep (sJ j):=by rw [k4 hm,rep_add]
     repeat' (first|refine bL ?_|refine vS fun K hK=>?_|refine hK _ ?_;clear hK K|refine hX ?_;clear hX hY X Y|refine vB ?_|((first|refine vR tok (by rw [hnt];rfl) ?_|refine vC fun X Y hX hY=>?_|refine vK ?_|refine vL hk0 [] ?_|(apply gC<;>intro hq<;>(try simp only [nT,nF,n1,n0] at hq)<;>(have hb:=hq)<;>(try simp only [dT,dF,eT,eF] at hb)<;>first|(exfalso;omega)|((try simp only [hq]);clear hq)))<;>(try simp only [go_sem,qa,qb,qc,qd,qe,qf,qg,qh,qi,qj,qk,ql,qm,qn,qo,qp,qq,qr,qs,reduceIte,reduceCtorEq,e1,e2,k3,hm]))|refine ⟨j+1,?_,?_,?_⟩|refine Fits.of ?_ ?_|refine aE ?_ fun hp=>?_|refine And.intro ?_ ?_|clear hK K)
     all_goals try (first|omega|(unfold Big;omega)|(rw [u8m];omega)|(rw [u8M];omega)|(simp only [dA,dB,dC];omega))
   · have e1:rep (oJ (j+1))=rep (oJ j):=by rw [k5 hm]
     repeat' (first|refine bL ?_|refine vS fun K hK=>?_|refine hK _ ?_;clear hK K|refine hX ?_;clear hX hY X Y|refine hY ?_;clear hX hY X Y|refine vB ?_|((first|refine vR tok (by rw [hnt];rfl) ?_|refine vC fun X Y hX hY=>?_|refine vK ?_|refine vL hk0 [] ?_|(apply gC<;>intro hq<;>(try simp only [nT,nF,n1,n0] at hq)<;>(have hb:=hq)<;>(try simp only [dT,dF,eT,eF] at hb)<;>first|(exfalso;omega)|((try simp only [hq]);clear hq)))<;>(try simp only [go_sem,qa,qb,qc,qd,qe,qf,qg,qh,qi,qj,qk,ql,qm,qn,qo,qp,qq,qr,qs,reduceIte,reduceCtorEq,e1,e2,k3,hm]))|refine ⟨j+1,?_,?_,?_⟩|refine Fits.of ?_ ?_|refine aE ?_ fun hp=>?_|refine And.intro ?_ ?_|clear hK K)
     all_goals try (first|omega|(unfold Big;omega)|(rw [u8m];omega)|(rw [u8M];omega)|(simp only [dA,dB,dC];omega))
 · obtain rfl:j=7:=by omega
   have j1:nJ 7=0:=rfl
   have j2:oJ 7=80:=rfl
   repeat' (first|refine vS fun K hK=>?_|refine hK _ ?_;clear hK K|refine hY ?_;clear hX hY X Y|((first|refine vR tok (by rw [hnt];rfl) ?_|refine vC fun X Y hX hY=>?_|refine vE ?_|refine vT ?_|(refine vF [] ?_))<;>(try simp only [go_sem,qa,qb,qc,qd,qe,qf,qg,qh,qi,qj,qk,ql,qm,qn,qo,qp,qq,qr,qs,reduceIte,reduceCtorEq,j1,j2]))|clear hK K)
theorem l6Dec_len (n:Int) (h0:0≤n) (h1:n < 100):CallX (α:=Str) Tryz.prog 29 [I n] [] 0 (fun x=>x.length≤2) (fun x=>.o (U x)) (fun _=>[]) 0:=by
 obtain ⟨a,b,h⟩:=l6Dec_ok n h0 h1
 refine ⟨a,b,fun w A ρ vs h1 h2 h3 h4=>(h w A ρ vs h1 h2 h3 h4).mono ?_⟩
 rintro e w' ⟨_,v,A',ρ',_,r⟩
 exact ⟨decB n,v,A',ρ',decB_le2 n,r⟩
theorem of_len (l:List Int) (p:Int) (ls:List Str) (n:Nat) (hl:Bytes l) (h0:0≤p) (h9:p≤10000) (h1:0 < ls.length) (hn:ls.length≤100) (hq:∀ y ∈ ls,y.length≤n) :
   CallX (α:=Str) Tryz.prog 30 [.c (.ptr 0 0 0 0),.c (.sl 1 1 0 ls.length)] (rdH l p 0++[(1,rU ls)]) 2 (fun x=>x.length≤n) (fun x=>.o (U x)) (fun _=>rdH l (p+1) 0++[(1,rU ls)]) 2:=by
 obtain ⟨a,b,h⟩:=of_ok l p ls hl h0 h9 h1 hn
 refine ⟨a,b,fun w A ρ vs h1 h2 h3 h4=>(h w A ρ vs h1 h2 h3 h4).mono ?_⟩
 rintro e w' ⟨x,v,A',ρ',hx,r⟩
 exact ⟨x,v,A',ρ',hq x hx,r⟩
theorem l72Line_ok (l:List Int) (p:Int) (hl:Bytes l) (h0:0≤p) (h9:p≤9000):CallX (α:=Str × Int) Tryz.prog 18 [.c (.ptr 0 0 0 0)] (rdH l p 0) 1 (fun x=>x.1.length≤60∧p≤x.2∧x.2≤p+8) (fun x=>.o (U x.1)) (fun x=>rdH l x.2 0) 1:=by
 have o3:=of_len l (p+1+1+1) [[115,101,101],[116,101,108,108,32],[108,97,116,101,32]] 5 hl (by omega) (by omega) (by decide) (by decide) (by decide)
 have o8:=of_len l (p+1+1+1) [[119,104,97,116],[],[99,97,108,109],[115,101,110,100,32,49],[103,101,116],[98,108,111,99,107,32,51],[99,97,108,109,32,57],[115,116,101,112,32,49,32,48,32,53]] 10 hl (by omega) (by omega) (by decide) (by decide) (by decide)
 refine vO tok Tryz.func18 rfl rfl Tryz.ntmps18 Tryz.results18 rfl (by decide) (fun cx hnt hk0=>?_)
 repeat' (first|refine bL ?_|refine vS fun K hK=>?_|refine hK _ ?_;clear hK K|refine hX ?_;clear hX hY X Y|refine hY ?_;clear hX hY X Y|refine vB ?_|((first|refine vR tok (by rw [hnt];rfl) ?_|refine vC fun X Y hX hY=>?_|refine vK ?_|refine vT ?_|(refine runS_at [_,_] (o3) rfl ?_ ?_ (fun y hy=>?_))|(refine runS_at [_,_] (o8) rfl ?_ ?_ (fun y hy=>?_))|refine runS_pick l hl rfl ?_ ?_ ?_ (fun x hx=>?_)|(refine runS_at [] (l6Dec_len _ (by omega) (by omega)) rfl ?_ ?_ (fun y hy=>?_))|(apply gC<;>intro hq<;>(try simp only [nT,nF,n1,n0] at hq)<;>(have hb:=hq)<;>(try simp only [dT,dF,eT,eF] at hb)<;>first|(exfalso;omega)|((try simp only [hq]);clear hq)))<;>(try simp only [go_sem,qa,qb,qc,qd,qe,qf,qg,qh,qi,qj,qk,ql,qm,qn,qo,qp,qq,qr,qs,reduceIte,reduceCtorEq,rowOf_V3,rowOf_V8]))|refine Fits.of ?_ ?_|refine aE ?_ fun hp=>?_|refine And.intro ?_ ?_|clear hK K)
 all_goals try (first|omega|(unfold Big;omega)|(rw [u8m];omega)|(rw [u8M];omega)|(simp only [dA,dB,dC];omega))
 all_goals try (
   (apply Exists.intro ((_,_));apply And.intro;rotate_left;focus (refine vF [] ?_;simp only [go_sem,qa,qb,qc,qd,qe,qf,qg,qh,qi,qj,qk,ql,qm,qn,qo,qp,qq,qr,qs,reduceIte,reduceCtorEq];first|rfl|refine ⟨?_,?_⟩<;>rfl|(repeat' (apply And.intro))<;>first|rfl|trivial);try dsimp only)
   refine ⟨?_,by omega,by omega⟩
   simp only [List.length_cons,List.length_append,List.length_nil]
   omega)
def jL (l:List Int) (x:Str × Int × Int):St:=⟨[(3,.o (.c (.ptr 0 0 0 0))),(4,.o (U x.1)),(5,.o (I x.2.2))],rdH l x.2.1 0,1⟩
attribute [go_sem] jL
def pL (x:Str × Int × Int):Prop:=x.1.length+61 * x.2.2.toNat≤18+61 * 14∧Lined x.1∧0≤x.2.1∧x.2.1+8 * x.2.2≤200∧0≤x.2.2∧x.2.2≤14
theorem DrawLinesRun_from (l code:List Int) (hl:Bytes l) (cO:Call Tryz.prog 16 [.c (.t (bytesT code))] [] 0 (.o (.c (.ptr 0 0 0 0))) (rdH l 0 0) 1) :
   CallX (α:=Str) Tryz.prog 13 [.c (.t (bytesT code))] [] 0 (fun x=>x.length≤2000∧Lined x) (fun x=>.o (U x)) (fun _=>[]) 0:=by
 refine vO tok Tryz.func13 rfl rfl Tryz.ntmps13 Tryz.results13 rfl (by decide) (fun cx hnt hk0=>?_)
 repeat' (first|refine vS fun K hK=>?_|refine hK _ ?_;clear hK K|refine hX ?_;clear hX hY X Y|refine hY ?_;clear hX hY X Y|refine vB ?_|((first|refine vR tok (by rw [hnt];rfl) ?_|refine vC fun X Y hX hY=>?_|refine vK ?_|refine runS_c [] (cO) rfl ?_ ?_ ?_|refine runS_pick l hl rfl ?_ ?_ ?_ (fun x hx=>?_)|(apply gC<;>intro hq<;>(try simp only [nT,nF,n1,n0] at hq)<;>(have hb:=hq)<;>(try simp only [dT,dF,eT,eF] at hb)<;>first|(exfalso;omega)|((try simp only [hq]);clear hq)))<;>(try simp only [go_sem,qa,qb,qc,qd,qe,qf,qg,qh,qi,qj,qk,ql,qm,qn,qo,qp,qq,qr,qs,reduceIte,reduceCtorEq])))
 all_goals try (first|omega|(unfold Big;omega)|(rw [u8m];omega)|(rw [u8M];omega)|(simp only [dA,dB,dC];omega))
 · have hx14:x≤14:=by omega
   refine AWp.loop (jL l) pL (fun x=>x.2.2.toNat) ([115,116,101,112,32,49,32,48,32,49,10,99,97,108,109,32,51,10],2,x) ⟨by simp only [List.length_cons,List.length_nil];omega,.inr ⟨[115,116,101,112,32,49,32,48,32,49,10,99,97,108,109,32,51],rfl⟩,by simp,by simp only;omega,by simp only;omega,by simp only;omega⟩ ?_ ?_
   · refine vL hk0 [] ?_;simp only [go_sem,qa,qb,qc,qd,qe,qf,qg,qh,qi,qj,qk,ql,qm,qn,qo,qp,qq,qr,qs,reduceIte,reduceCtorEq]
   rintro ⟨s,q,n⟩ ⟨i1,i2,i3,i4,i5,i6⟩
   dsimp only at i1 i2 i3 i4 i5 i6
   by_cases hn:0 < n
   · have cL:=l72Line_ok l q hl i3 (by omega)
     repeat' (first|refine bL ?_|refine vS fun K hK=>?_|refine hK _ ?_;clear hK K|refine hX ?_;clear hX hY X Y|refine vB ?_|((first|refine vR tok (by rw [hnt];rfl) ?_|refine vC fun X Y hX hY=>?_|refine vK ?_|(refine runS_at [0] (cL) rfl ?_ ?_ (fun y hy=>?_))|refine vL hk0 [] ?_|(apply gC<;>intro hq<;>(try simp only [nT,nF,n1,n0] at hq)<;>(have hb:=hq)<;>(try simp only [dT,dF,eT,eF] at hb)<;>first|(exfalso;omega)|((try simp only [hq]);clear hq)))<;>(try simp only [go_sem,qa,qb,qc,qd,qe,qf,qg,qh,qi,qj,qk,ql,qm,qn,qo,qp,qq,qr,qs,reduceIte,reduceCtorEq]))|(refine ⟨(s++y.1++(.cons 10 .nil),y.2,n - 1),?_,?_,?_⟩)|refine Fits.of ?_ ?_|refine aE ?_ fun hp=>?_|refine And.intro ?_ ?_|clear hK K)
     all_goals try (first|omega|(unfold Big;omega)|(rw [u8m];omega)|(rw [u8M];omega)|(simp only [dA,dB,dC];omega))
     · simp only [List.length_append,List.length_cons,List.length_nil];omega
     · exact .inr ⟨_,rfl⟩
   · repeat' (first|refine bL ?_|refine vS fun K hK=>?_|refine hK _ ?_;clear hK K|refine hX ?_;clear hX hY X Y|refine hY ?_;clear hX hY X Y|((first|refine vR tok (by rw [hnt];rfl) ?_|refine vC fun X Y hX hY=>?_|refine vK ?_|refine vE ?_|refine vT ?_|refine runS_c [] (l6Many_ok) rfl ?_ ?_ ?_|refine runS_pick l hl rfl ?_ ?_ ?_ (fun x hx=>?_)|(apply gC<;>intro hq<;>(try simp only [nT,nF,n1,n0] at hq)<;>(have hb:=hq)<;>(try simp only [dT,dF,eT,eF] at hb)<;>first|(exfalso;omega)|((try simp only [hq]);clear hq)))<;>(try simp only [go_sem,qa,qb,qc,qd,qe,qf,qg,qh,qi,qj,qk,ql,qm,qn,qo,qp,qq,qr,qs,reduceIte,reduceCtorEq]))|refine aE ?_ fun hp=>?_|clear hK K)
     all_goals try (first|omega|(unfold Big;omega)|(rw [u8m];omega)|(rw [u8M];omega)|(simp only [dA,dB,dC];omega))
     · rw [rep_len];unfold Big;omega
     · refine ⟨s++rep 80,⟨by rw [List.length_append,rep_len];omega,rep_lined s⟩,?_⟩
       refine vF [0] ?_
       simp only [go_sem,qa,qb,qc,qd,qe,qf,qg,qh,qi,qj,qk,ql,qm,qn,qo,qp,qq,qr,qs,reduceIte,reduceCtorEq]
     · refine ⟨s,⟨by omega,i2⟩,?_⟩
       refine vF [0] ?_
       simp only [go_sem,qa,qb,qc,qd,qe,qf,qg,qh,qi,qj,qk,ql,qm,qn,qo,qp,qq,qr,qs,reduceIte,reduceCtorEq]
 · have hx14:x≤14:=by omega
   refine AWp.loop (jL l) pL (fun x=>x.2.2.toNat) ([],2,x) ⟨by simp only [List.length_nil];omega,.inl rfl,by simp,by simp only;omega,by simp only;omega,by simp only;omega⟩ ?_ ?_
   · refine vL hk0 [] ?_;simp only [go_sem,qa,qb,qc,qd,qe,qf,qg,qh,qi,qj,qk,ql,qm,qn,qo,qp,qq,qr,qs,reduceIte,reduceCtorEq]
   rintro ⟨s,q,n⟩ ⟨i1,i2,i3,i4,i5,i6⟩
   dsimp only at i1 i2 i3 i4 i5 i6
   by_cases hn:0 < n
   · have cL:=l72Line_ok l q hl i3 (by omega)
     repeat' (first|refine bL ?_|refine vS fun K hK=>?_|refine hK _ ?_;clear hK K|refine hX ?_;clear hX hY X Y|refine vB ?_|((first|refine vR tok (by rw [hnt];rfl) ?_|refine vC fun X Y hX hY=>?_|refine vK ?_|(refine runS_at [0] (cL) rfl ?_ ?_ (fun y hy=>?_))|refine vL hk0 [] ?_|(apply gC<;>intro hq<;>(try simp only [nT,nF,n1,n0] at hq)<;>(have hb:=hq)<;>(try simp only [dT,dF,eT,eF] at hb)<;>first|(exfalso;omega)|((try simp only [hq]);clear hq)))<;>(try simp only [go_sem,qa,qb,qc,qd,qe,qf,qg,qh,qi,qj,qk,ql,qm,qn,qo,qp,qq,qr,qs,reduceIte,reduceCtorEq]))|(refine ⟨(s++y.1++(.cons 10 .nil),y.2,n - 1),?_,?_,?_⟩)|refine Fits.of ?_ ?_|refine aE ?_ fun hp=>?_|refine And.intro ?_ ?_|clear hK K)
     all_goals try (first|omega|(unfold Big;omega)|(rw [u8m];omega)|(rw [u8M];omega)|(simp only [dA,dB,dC];omega))
     · simp only [List.length_append,List.length_cons,List.length_nil];omega
     · exact .inr ⟨_,rfl⟩
   · repeat' (first|refine bL ?_|refine vS fun K hK=>?_|refine hK _ ?_;clear hK K|refine hX ?_;clear hX hY X Y|refine hY ?_;clear hX hY X Y|((first|refine vR tok (by rw [hnt];rfl) ?_|refine vC fun X Y hX hY=>?_|refine vK ?_|refine vE ?_|refine vT ?_|refine runS_c [] (l6Many_ok) rfl ?_ ?_ ?_|refine runS_pick l hl rfl ?_ ?_ ?_ (fun x hx=>?_)|(apply gC<;>intro hq<;>(try simp only [nT,nF,n1,n0] at hq)<;>(have hb:=hq)<;>(try simp only [dT,dF,eT,eF] at hb)<;>first|(exfalso;omega)|((try simp only [hq]);clear hq)))<;>(try simp only [go_sem,qa,qb,qc,qd,qe,qf,qg,qh,qi,qj,qk,ql,qm,qn,qo,qp,qq,qr,qs,reduceIte,reduceCtorEq]))|refine aE ?_ fun hp=>?_|clear hK K)
     all_goals try (first|omega|(unfold Big;omega)|(rw [u8m];omega)|(rw [u8M];omega)|(simp only [dA,dB,dC];omega))
     · rw [rep_len];unfold Big;omega
     · refine ⟨s++rep 80,⟨by rw [List.length_append,rep_len];omega,rep_lined s⟩,?_⟩
       refine vF [0] ?_
       simp only [go_sem,qa,qb,qc,qd,qe,qf,qg,qh,qi,qj,qk,ql,qm,qn,qo,qp,qq,qr,qs,reduceIte,reduceCtorEq]
     · refine ⟨s,⟨by omega,i2⟩,?_⟩
       refine vF [0] ?_
       simp only [go_sem,qa,qb,qc,qd,qe,qf,qg,qh,qi,qj,qk,ql,qm,qn,qo,qp,qq,qr,qs,reduceIte,reduceCtorEq]
theorem bytes_take8 {l:List Int} (hb:∀ i,0≤l.getD i 0∧l.getD i 0≤255):Bytes (l.take 2000):=by
 refine ⟨by rw [List.length_take];omega,fun i=>?_⟩
 by_cases hi:i < 2000
 · have:(l.take 2000).getD i 0=l.getD i 0:=by unfold List.getD;rw [List.getElem?_take,if_pos hi]
   rw [this];exact hb i
 · have:(l.take 2000).getD i 0=0:=by unfold List.getD;rw [List.getElem?_take,if_neg hi];rfl
   rw [this];decide
theorem DrawLinesRun_ok (l:List Int) (hb:∀ i,0≤l.getD i 0∧l.getD i 0≤255) (h2:(l.length:Int)≤1048576) :
   CallX (α:=Str) Tryz.prog 13 [.c (.t (bytesT l))] [] 0 (fun x=>x.length≤2000∧Lined x) (fun x=>.o (U x)) (fun _=>[]) 0:=by
 by_cases h:l.length≤2000
 · exact DrawLinesRun_from l l ⟨h,hb⟩ (l6Open_ok l h)
 · exact DrawLinesRun_from (l.take 2000) l (bytes_take8 hb) (l6Open_long l (by omega) h2)
end Go.Hw
