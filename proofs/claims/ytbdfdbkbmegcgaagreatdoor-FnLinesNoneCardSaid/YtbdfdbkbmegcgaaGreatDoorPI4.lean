/- What is proved here: parts of the walk of the law and of its plain side; no condition but those that each theorem states. -/
import Derived.Test.YtbdfdbkbmegcgaaGreatDoorPD1
import Derived.Test.YtbdfdbkbmegcgaaGreatDoorPD2
import Derived.Test.YtbdfdbkbmegcgaaGreatDoorPH4
import Derived.Test.YtbdfdbkbmegcgaaGreatDoorPI1
import Derived.Test.YtbdfdbkbmegcgaaGreatDoorPI2
import Derived.Test.YtbdfdbkbmegcgaaGreatDoorPI3
import Derived.Test.YtbdfdbkbmegcgaaGreatDoorPS1
import Derived.Test.YtbdfdbkbmegcgaaGreatDoorPS2
set_option linter.all false
set_option maxRecDepth 100000
set_option maxHeartbeats 16000000
open Int renaming reduceToNat→qk,reduceAdd→ql,reduceSub→qm,reduceNeg→qn,reduceLT→qo,reduceLE→qp,reduceEq→qq,reduceBEq→qr,reduceBNe→qs
open Nat renaming reduceDiv→qa,reduceMod→qb,reduceAdd→qc,reduceMul→qd,reduceSub→qe,reduceLeDiff→qf,reduceBEq→qg,reduceEqDiff→qh,reduceBeqDiff→qi,reduceLT→qj
open Go.Hw renaming runG_split→gR,condG_split→gC,takG_split→gT,effG_split→gE
open Go.Hw.AWp renaming region→vR,seq→vS,cond'→vC,block→vB,skip→vK,ret→vT,exit→vE
open Go.Hw.Fin renaming auto→vF
open Go.Hw.SLe renaming auto→vL
open Go.Hw.CallX renaming of→vO
namespace Go.Hw
open Go.Proofs
def pl_app_num0:Plan:=(.tak 0 (.tak 1 (.tak 2 (.tak 3 (.tak 5 (.tak 6 (.tak 7 (.tak 8 (.tak 9 (.tak 11 (.tak 12 (.tak 13 (.tak 14 (.tak 15 (.tak 17 (.tak 18 (.tak 19 (.tak 20 (.all (.cons 4 (.all (.cons 10 (.all (.cons 16 (.all (.cons 21 (.all (.cons 22 (.tak 23 .done) .nil)) .nil)) .nil)) .nil)) .nil))))))))))))))))))))
attribute [go_sem] pl_app_num0
attribute [local irreducible] Fits
def lineH (w:Two) (out:Str) (z r:Nat):Heap:=(17,.tbx 39 [.ptr 0 0 0 0,bldC 1 17 (!out.isEmpty),.sl r 1 0 out.length]) ::(r,bufO out z) ::pairH w 3 10
attribute [go_sem] lineH
@[go_sem] theorem rowOf_U3 (a b c:Str):rowOf 1 [cu a,cu b,cu c]=fU [a,b,c]:=by
 funext i j;unfold rowOf fU
 rcases j with _|j
 · rcases i with _|_|_|i<;>simp [dfl,List.getD,nix]<;>omega
 · simp
@[go_sem] theorem rowOf_U4 (a b c d:Str):rowOf 1 [cu a,cu b,cu c,cu d]=fU [a,b,c,d]:=by
 funext i j;unfold rowOf fU
 rcases j with _|j
 · rcases i with _|_|_|_|i<;>simp [dfl,List.getD,nix]<;>omega
 · simp
@[go_sem ↓] theorem colC_bldC {k o h h':Nat} {u:Bool}:colC k (bldC o h u) (bldC o h' u)=bif Nat.ble k h' then (bif u then [(h',h)] else []) else []:=by
 cases u<;>cases hb:Nat.ble k h'<;>simp [bldC,colC,hb]
theorem app_num (l:List Str) (m:List Int) (n k:Nat) (w:List Str) (e1:l.length=n) (ew:l++m.map decB=w) (e2:w.length=k) (hl:l.length≤1000) (hm:m.length≤1000) (h:∀ i,0≤m.getD i 0∧m.getD i 0 < 100) :
   Call Tryz.prog 42 [.c (.sl 0 1 0 n),.c (.sl 1 1 0 m.length)] [(0,.row 1 n (fU l)),(1,rI m)] 2 (.o (.c (.sl 2 1 0 k))) [(2,.row 1 k (fU w)),(1,rI m)] 3:=by
 subst e1;subst ew;subst e2
 exact appendNumbers_ok l m hl hm h
theorem Join_n (l:List Str) (j:Str) (n:Nat) (e:l.length=n) (h0:0 < n) (h1:n≤1000000) (hj:j=Lib.join l [32]) (h2:j.length≤1000000):Call Tryz.prog 45 [.c (.sl 0 1 0 n),U [32]] [(0,.row 1 n (fU l))] 1 (.o (U j)) [(0,.row 1 n (fU l))] 1:=by
 subst e;subst hj
 exact Join_ok l (by intro h;rw [h] at h0;simp at h0) h1 h2
theorem WriteNl (u:Bool) (l:Str) (z:Nat) (hl:l.length+1≤1000000) :
   CallX (α:=Nat) Tryz.prog 46 [.c (.ptr 0 0 0 1),.c (.t (.v (.int .u8 10)))] [(0,.tbx 39 [.ptr 1 0 0 0,bldC 1 0 u,.sl 2 1 0 l.length]),(2,bufO l z)] 3 (fun _=>True) (fun _=>.o (.c (.t (.v .nilIface)))) (fun z'=>[(0,.tbx 39 [.ptr 1 0 0 0,bldC 1 0 true,.sl 3 1 0 (l++[10]).length]),(3,bufO (l++[10]) z')]) 4:=WriteByteL_ok u l 10 z hl
theorem status_1 (a b:Chain) (out:Str) (z:Nat) (hoka:a.ok=true) (hokb:b.ok=true) (ho:out.length≤800000) :
   CallX (α:=Nat) Tryz.prog 23 [.c (.ptr 17 0 0 0)] (lineH ⟨a,b⟩ out z 18) 19 (fun _=>True) (fun _=>.tup []) (fun z'=>lineH ⟨a,b⟩ (out++(a.text++b.text)) z' 19) 20:=by
 obtain ⟨⟨ai1,ai2⟩,ahba,ahsa,ahpa,_,_⟩:=chain_ok hoka
 obtain ⟨⟨aw1,aw2⟩,⟨av1,av2⟩,ans,_⟩:=state_ok ahsa
 obtain ⟨ab1,ab2,ab3,ab4,_⟩:=bank_ok ahba
 have al1:=parts_len ab1
 have al2:=parts_len ab2
 have ap1:∀ i,0≤a.bank.own.getD i 0∧a.bank.own.getD i 0 < 100:=fun i=>by have:=parts_get ab1 i;omega
 have ap2:∀ i,0≤a.bank.notes.getD i 0∧a.bank.notes.getD i 0 < 100:=fun i=>by have:=parts_get ab2 i;omega
 have as0:=(parts_all ab1).1
 have ajl:a.jn.length≤200:=by have h1:=text_len a hoka;have h2:=jn_text a ahsa;rw [← h2] at h1;simp at h1;omega
 have ajt:=jn_text a ahsa
 have ac1:=Itoa_ok a.id (by omega) (by omega)
 have ac2:=wayWord_ok a.state.way
 have ac3:=Itoa_ok a.state.ver (by omega) (by omega)
 have ac4:=Itoa_ok (a.past.length:Nat) (by omega) (by omega)
 have ak1:=wd_len a hoka 0
 have ak2:a.wd1.length=8:=by simp [Chain.wd1,Chain.hd4,al1]
 have ak3:a.wd2.length=14:=by rw [← wd_zero];exact ak1
 have ac5:=app_num [decB a.id,wayT a.state.way,decB a.state.ver,decB (a.past.length:Nat),[111,119,110]] a.bank.own 5 8 a.wd1 rfl (wd1_eq a) ak2 (by simp) (by omega) ap1
 have ac6:=Itoa_ok a.bank.locked (by omega) (by omega)
 have ac7:=app_num (a.wd1++[[108,111,99,107,101,100],decB a.bank.locked,[110,111,116,101,115]]) a.bank.notes 11 14 a.wd2 (by simp [ak2]) (wd2_eq a) ak3 (by simp [ak2]) (by omega) ap2
 obtain ⟨⟨bi1,bi2⟩,bhba,bhsa,bhpa,_,_⟩:=chain_ok hokb
 obtain ⟨⟨bw1,bw2⟩,⟨bv1,bv2⟩,bns,_⟩:=state_ok bhsa
 obtain ⟨bb1,bb2,bb3,bb4,_⟩:=bank_ok bhba
 have bl1:=parts_len bb1
 have bl2:=parts_len bb2
 have bp1:∀ i,0≤b.bank.own.getD i 0∧b.bank.own.getD i 0 < 100:=fun i=>by have:=parts_get bb1 i;omega
 have bp2:∀ i,0≤b.bank.notes.getD i 0∧b.bank.notes.getD i 0 < 100:=fun i=>by have:=parts_get bb2 i;omega
 have bs0:=(parts_all bb1).1
 have bjl:b.jn.length≤200:=by have h1:=text_len b hokb;have h2:=jn_text b bhsa;rw [← h2] at h1;simp at h1;omega
 have bjt:=jn_text b bhsa
 have bc1:=Itoa_ok b.id (by omega) (by omega)
 have bc2:=wayWord_ok b.state.way
 have bc3:=Itoa_ok b.state.ver (by omega) (by omega)
 have bc4:=Itoa_ok (b.past.length:Nat) (by omega) (by omega)
 have bk1:=wd_len b hokb 0
 have bk2:b.wd1.length=8:=by simp [Chain.wd1,Chain.hd4,bl1]
 have bk3:b.wd2.length=14:=by rw [← wd_zero];exact bk1
 have bc5:=app_num [decB b.id,wayT b.state.way,decB b.state.ver,decB (b.past.length:Nat),[111,119,110]] b.bank.own 5 8 b.wd1 rfl (wd1_eq b) bk2 (by simp) (by omega) bp1
 have bc6:=Itoa_ok b.bank.locked (by omega) (by omega)
 have bc7:=app_num (b.wd1++[[108,111,99,107,101,100],decB b.bank.locked,[110,111,116,101,115]]) b.bank.notes 11 14 b.wd2 (by simp [bk2]) (wd2_eq b) bk3 (by simp [bk2]) (by omega) bp2
 refine vO tok Tryz.func23 rfl rfl Tryz.ntmps23 Tryz.results23 rfl (by decide) (fun cx hnt hk0=>?_)

 repeat' (first|refine vS fun K hK=>?_|refine hK _ ?_;clear hK K|refine vB ?_|((refine vR tok (by rw [hnt];rfl) ?_)<;>(try simp only [go_sem,qa,qb,qc,qd,qe,qf,qg,qh,qi,qj,qk,ql,qm,qn,qo,qp,qq,qr,qs,reduceIte,reduceCtorEq])))
 refine AWp.loopN 3 fun L hL=>?_
 repeat' (first|refine vS fun K hK=>?_|refine hK _ ?_;clear hK K|refine hX ?_;clear hX hY X Y|refine vB ?_|refine hL _ _ ?_|((first|refine vR tok (by rw [hnt];rfl) ?_|refine vC fun X Y hX hY=>?_|refine vK ?_|refine runS_c [21,3] (ac5) rfl ?_ ?_ ?_|refine runS_c [] (ac6) rfl ?_ ?_ ?_|refine runS_c [24,4] (ac7) rfl ?_ ?_ ?_|(refine AWp.draw (id:=3) tok mixed pl_app_num0 [0,1,2] [3] (by kernel_rfl) (by kernel_rfl) (by rw [hnt];rfl) ?_)|refine effS_c [] (ac1) rfl ?_ ?_ ?_|refine effS_c [] (ac2) rfl ?_ ?_ ?_|refine effS_c [] (ac3) rfl ?_ ?_ ?_|(refine effS_c [] (ac4) rfl ?_ ?_ ?_))<;>(try simp only [go_sem,qa,qb,qc,qd,qe,qf,qg,qh,qi,qj,qk,ql,qm,qn,qo,qp,qq,qr,qs,reduceIte,reduceCtorEq,ak2,ak3,bk2,bk3]))|refine aL ?_ fun hp=>?_|clear hK K|clear hL L)
 all_goals try (first|omega|(unfold Big;omega)|(rw [u8m];omega)|(rw [u8M];omega)|(simp only [dA,dB,dC];omega))
 all_goals try omega
 refine AWp.loop (fun n:Nat=>⟨[(0,.o (.c (.ptr 17 0 0 0))),(3,.o (.c (.ptr 1 0 0 0))),(12,.o (.g [.ptr 1 0 0 0,.ptr 2 0 0 0])),(13,.o (I 0)),(4,.o (.c (.sl 19 1 0 (14+n)))),(5,.o (I ((n:Int)+1)))],(19,.row 1 (14+n) (fU (a.wd n))) ::(17,.tbx 39 [.ptr 0 0 0 0,bldC 1 17 (!out.isEmpty),.sl 20 1 0 (out).length]) ::(20,bufO (out) z) ::pairH ⟨a,b⟩ 3 10,21⟩) (fun n=>n≤a.state.sent.length) (fun n=>a.state.sent.length - n) 0 (Nat.zero_le _) ?_ ?_
 · refine vL hk0 [] ?_;simp only [go_sem,qa,qb,qc,qd,qe,qf,qg,qh,qi,qj,qk,ql,qm,qn,qo,qp,qq,qr,qs,reduceIte,reduceCtorEq,wd_zero]
   all_goals first|rfl
 intro n hn
 have hn':n≤a.state.sent.length:=hn
 have hwn:=wd_len a hoka n
 by_cases hlt:n < a.state.sent.length
 · have e1:=wd_succ a n
   have cS:=StateSettled_yes a.state ((n:Int)+1) ahsa
   have cW:=settledWord_ok (a.state.settledV ((n:Int)+1))
   repeat' (first|refine bL ?_|refine vS fun K hK=>?_|refine hK _ ?_;clear hK K|refine hX ?_;clear hX hY X Y|refine vB ?_|((first|refine vR tok (by rw [hnt];rfl) ?_|refine vC fun X Y hX hY=>?_|refine vK ?_|refine runS_v [] (cS) ?_ ?_ ?_ ?_ ?_|refine runS_c [] (cW) rfl ?_ ?_ ?_|refine vL hk0 [] ?_|(apply gC<;>intro hq<;>(try simp only [nT,nF,n1,n0] at hq)<;>(have hb:=hq)<;>(try simp only [dT,dF,eT,eF] at hb)<;>first|(exfalso;omega)|((try simp only [hq]);clear hq)))<;>(try simp only [go_sem,qa,qb,qc,qd,qe,qf,qg,qh,qi,qj,qk,ql,qm,qn,qo,qp,qq,qr,qs,reduceIte,reduceCtorEq,e1,hwn]))|refine ⟨n+1,?_,?_,?_⟩|refine Fits.of ?_ ?_|refine aE ?_ fun hp=>?_|refine And.intro ?_ ?_|clear hK K|clear hL L)
   all_goals try (first|omega|(unfold Big;omega)|(rw [u8m];omega)|(rw [u8M];omega)|(simp only [dA,dB,dC];omega))
   all_goals first|omega
 have hns:n=a.state.sent.length:=by omega
 subst hns
 clear hlt hn hn'
 have cJ:=Join_n (a.wd a.state.sent.length) a.jn _ hwn (by omega) (by omega) (by unfold Chain.jn;rfl) (by have:=ajl;omega)

 have cA:=WriteStringL_ok (!out.isEmpty) out a.jn z (jn_ne a) (by omega)
 have cB:=fun z=>WriteNl true (out++a.jn) z (by rw [List.length_append];omega)
 have atl:a.text.length=a.jn.length+1:=by rw [← ajt];simp
 have aj3:out++a.jn++[10]=out++a.text:=by rw [List.append_assoc,ajt]
 have ate:a.text.isEmpty=false:=by rw [← ajt];simp
 repeat' (first|refine bL ?_|refine vS fun K hK=>?_|refine hK _ ?_;clear hK K|refine hX ?_;clear hX hY X Y|refine hY ?_;clear hX hY X Y|refine vB ?_|refine hL _ _ ?_|((first|refine vR tok (by rw [hnt];rfl) ?_|refine vC fun X Y hX hY=>?_|refine vK ?_|refine vE ?_|(refine runS_at [17,0,21] ((cB z1)) rfl ?_ ?_ (fun z2 y2=>?_))|refine runS_c [25,10] (bc5) rfl ?_ ?_ ?_|refine runS_c [] (bc6) rfl ?_ ?_ ?_|refine runS_c [28,11] (bc7) rfl ?_ ?_ ?_|(refine AWp.draw (id:=3) tok mixed pl_app_num0 [0,1,2] [3] (by kernel_rfl) (by kernel_rfl) (by rw [hnt];rfl) ?_)|(refine AWp.draw (id:=12) tok mixed (.tak 0 (.tak 1 (.tak 2 (.tak 3 (.all (.cons 4 (.all (.cons 5 .done .nil)) .nil)))))) [0,1,2] [0,4] (by kernel_rfl) (by kernel_rfl) (by rw [hnt];rfl) ?_)|refine effS_c [19] (cJ) rfl ?_ ?_ ?_|(refine effS_at [17,0,20] (cA) rfl ?_ ?_ (fun z1 y1=>?_))|refine effS_c [] (bc1) rfl ?_ ?_ ?_|refine effS_c [] (bc2) rfl ?_ ?_ ?_|refine effS_c [] (bc3) rfl ?_ ?_ ?_|refine effS_c [] (bc4) rfl ?_ ?_ ?_|(apply gC<;>intro hq<;>(try simp only [nT,nF,n1,n0] at hq)<;>(have hb:=hq)<;>(try simp only [dT,dF,eT,eF] at hb)<;>first|(exfalso;omega)|((try simp only [hq]);clear hq)))<;>(try simp only [go_sem,qa,qb,qc,qd,qe,qf,qg,qh,qi,qj,qk,ql,qm,qn,qo,qp,qq,qr,qs,reduceIte,reduceCtorEq,ak2,ak3,bk2,bk3,aj3]))|refine Fits.of ?_ ?_|refine aL ?_ fun hp=>?_|refine And.intro ?_ ?_|clear hK K|clear hL L)
 all_goals try (first|omega|(unfold Big;omega)|(rw [u8m];omega)|(rw [u8M];omega)|(simp only [dA,dB,dC];omega))
 all_goals try omega
 refine AWp.loop (fun n:Nat=>⟨[(0,.o (.c (.ptr 17 0 0 0))),(3,.o (.c (.ptr 2 0 0 0))),(12,.o (.g [.ptr 1 0 0 0,.ptr 2 0 0 0])),(13,.o (I 1)),(4,.o (.c (.sl 19 1 0 (14+n)))),(5,.o (I ((n:Int)+1)))],(19,.row 1 (14+n) (fU (b.wd n))) ::(17,.tbx 39 [.ptr 0 0 0 0,bldC 1 17 true,.sl 20 1 0 (out++a.text).length]) ::(20,bufO (out++a.text) z2) ::pairH ⟨a,b⟩ 3 10,21⟩) (fun n=>n≤b.state.sent.length) (fun n=>b.state.sent.length - n) 0 (Nat.zero_le _) ?_ ?_
 · refine vL hk0 [] ?_;simp only [go_sem,qa,qb,qc,qd,qe,qf,qg,qh,qi,qj,qk,ql,qm,qn,qo,qp,qq,qr,qs,reduceIte,reduceCtorEq,wd_zero,aj3,atl,List.length_append]
   all_goals first|rfl
 intro n hn
 have hn':n≤b.state.sent.length:=hn
 have hwn:=wd_len b hokb n
 by_cases hlt:n < b.state.sent.length
 · have e1:=wd_succ b n
   have cS:=StateSettled_yes b.state ((n:Int)+1) bhsa
   have cW:=settledWord_ok (b.state.settledV ((n:Int)+1))
   repeat' (first|refine bL ?_|refine vS fun K hK=>?_|refine hK _ ?_;clear hK K|refine hX ?_;clear hX hY X Y|refine vB ?_|((first|refine vR tok (by rw [hnt];rfl) ?_|refine vC fun X Y hX hY=>?_|refine vK ?_|refine runS_v [] (cS) ?_ ?_ ?_ ?_ ?_|refine runS_c [] (cW) rfl ?_ ?_ ?_|refine vL hk0 [] ?_|(apply gC<;>intro hq<;>(try simp only [nT,nF,n1,n0] at hq)<;>(have hb:=hq)<;>(try simp only [dT,dF,eT,eF] at hb)<;>first|(exfalso;omega)|((try simp only [hq]);clear hq)))<;>(try simp only [go_sem,qa,qb,qc,qd,qe,qf,qg,qh,qi,qj,qk,ql,qm,qn,qo,qp,qq,qr,qs,reduceIte,reduceCtorEq,e1,hwn]))|refine ⟨n+1,?_,?_,?_⟩|refine Fits.of ?_ ?_|refine aE ?_ fun hp=>?_|refine And.intro ?_ ?_|clear hK K|clear hL L)
   all_goals try (first|omega|(unfold Big;omega)|(rw [u8m];omega)|(rw [u8M];omega)|(simp only [dA,dB,dC];omega))
   all_goals first|omega
 have hns:n=b.state.sent.length:=by omega
 subst hns
 clear hlt hn hn'
 have cJ:=Join_n (b.wd b.state.sent.length) b.jn _ hwn (by omega) (by omega) (by unfold Chain.jn;rfl) (by have:=bjl;omega)

 have cA2:=WriteStringL_ok true (out++a.text) b.jn z2 (jn_ne b) (by rw [List.length_append];omega)
 have cB2:=fun z=>WriteNl true (out++a.text++b.jn) z (by rw [List.length_append,List.length_append];omega)
 have btl:b.text.length=b.jn.length+1:=by rw [← bjt];simp
 have bj3:out++a.text++b.jn++[10]=out++(a.text++b.text):=by rw [List.append_assoc,bjt,List.append_assoc]
 repeat' (first|refine bL ?_|refine vS fun K hK=>?_|refine hK _ ?_;clear hK K|refine hY ?_;clear hX hY X Y|refine hL _ _ ?_|((first|refine vR tok (by rw [hnt];rfl) ?_|refine vC fun X Y hX hY=>?_|refine vE ?_|(refine runS_at [17,0,21] ((cB2 z3)) rfl ?_ ?_ (fun z4 y4=>?_))|(refine AWp.draw (id:=12) tok mixed (.tak 0 (.tak 1 (.tak 2 (.tak 3 (.all (.cons 4 (.all (.cons 5 .done .nil)) .nil)))))) [0,1,2] [0,4] (by kernel_rfl) (by kernel_rfl) (by rw [hnt];rfl) ?_)|refine effS_c [19] (cJ) rfl ?_ ?_ ?_|(refine effS_at [17,0,20] (cA2) rfl ?_ ?_ (fun z3 y3=>?_))|(apply gC<;>intro hq<;>(try simp only [nT,nF,n1,n0] at hq)<;>(have hb:=hq)<;>(try simp only [dT,dF,eT,eF] at hb)<;>first|(exfalso;omega)|((try simp only [hq]);clear hq)))<;>(try simp only [go_sem,qa,qb,qc,qd,qe,qf,qg,qh,qi,qj,qk,ql,qm,qn,qo,qp,qq,qr,qs,reduceIte,reduceCtorEq,bj3]))|refine Fits.of ?_ ?_|refine And.intro ?_ ?_|clear hK K|clear hL L)
 all_goals try (first|omega|(unfold Big;omega)|(rw [u8m];omega)|(rw [u8M];omega)|(simp only [dA,dB,dC];omega))
 all_goals try omega
 all_goals try rfl
 have hE:(out++(a.text++b.text)).isEmpty=false:=by rw [← ajt];simp
 refine ⟨z4,?_⟩
 have e:((!(out++(a.text++b.text)).isEmpty)=true):=by rw [hE];rfl
 rw [e]
 refine vF [] ?_
 simp only [go_sem,qa,qb,qc,qd,qe,qf,qg,qh,qi,qj,qk,ql,qm,qn,qo,qp,qq,qr,qs,reduceIte,reduceCtorEq,bj3,atl,btl]
end Go.Hw
namespace Go.Hw
open Go.Proofs
theorem iBankMove_no (b:Bank) (kind src dst sum:Int) (h1:b.own.length≤1000) (h2:b.notes.length≤1000) (h3:b.locked < 1099511627776) (h:b.moveB kind src dst sum=false) :
   Call Tryz.prog 67 [b.av,I kind,I src,I dst,I sum] [] 0 (.tup [.g (bankA Bank.none 0),BB false]) (bankH Bank.none 0) 2:=by
 by_cases hg:b.ok=true∧In kind 1 2=true∧In src 1 3=true∧In dst 1 3=true∧0≤sum
 · obtain ⟨gb,gk,gs,gd,g0⟩:=hg
   obtain ⟨q1,q2,q3,q4,q5⟩:=bank_ok gb
   have q6:=parts_len q1
   have q7:=parts_len q2
   have gA:¬ sum≤b.at kind src:=by
     simp only [Bank.moveB,gb,gk,gs,gd,Bool.true_and,decide_eq_true g0] at h
     simpa using h
   have gs':=gs
   rw [In_iff] at gk gs'
   have s1:=some_mE (l:=b.own) (k:=src) (by omega) (by omega)
   have s2:=some_mE (l:=b.notes) (k:=src) (by omega) (by omega)
   have l1:=lk_mE (l:=b.own) (k:=src) (by omega) (by omega)
   have l2:=lk_mE (l:=b.notes) (k:=src) (by omega) (by omega)
   by_cases hd:kind=1
   · have gA:¬ sum≤b.own.getD (src - 1).toNat 0:=by simpa only [Bank.at,Bank.list,if_pos hd] using gA
     refine vO tok Tryz.func67 rfl rfl Tryz.ntmps67 Tryz.results67 rfl (by decide) (fun cx hnt hk0=>?_)
     repeat' (first|refine vS fun K hK=>?_|refine hK _ ?_;clear hK K|refine hX ?_;clear hX hY X Y|refine hY ?_;clear hX hY X Y|((first|refine vR tok (by rw [hnt];rfl) ?_|refine vC fun X Y hX hY=>?_|refine vK ?_|refine vT ?_|refine vF [] ?_|(refine runS_c [] (iBankOk_ok b (by omega) (by omega) h3) rfl ?_ ?_ ?_)|refine runS_c [] (userOk_ok _) rfl ?_ ?_ ?_|refine runS_c [] (coinsOf_own kind hd) rfl ?_ ?_ ?_|refine runS_c [] (ledgerOf_ok b q6 q7) rfl ?_ ?_ ?_|refine runS_c [2,3] (ownCoins_ok _) rfl ?_ ?_ ?_|((first|apply gR|apply gC)<;>intro hq<;>(try simp only [nT,nF,n1,n0] at hq)<;>(have hb:=hq)<;>(try simp only [dT,dF,eT,eF] at hb)<;>first|(exfalso;omega)|((try simp only [hq]);clear hq)))<;>(try simp only [go_sem,qa,qb,qc,qd,qe,qf,qg,qh,qi,qj,qk,ql,qm,qn,qo,qp,qq,qr,qs,reduceIte,reduceCtorEq,gb,gs,gd,s1,l1,Bank.none])))
     all_goals try omega
   · have gA:¬ sum≤b.notes.getD (src - 1).toNat 0:=by simpa only [Bank.at,Bank.list,if_neg hd] using gA
     refine vO tok Tryz.func67 rfl rfl Tryz.ntmps67 Tryz.results67 rfl (by decide) (fun cx hnt hk0=>?_)
     repeat' (first|refine vS fun K hK=>?_|refine hK _ ?_;clear hK K|refine hX ?_;clear hX hY X Y|refine hY ?_;clear hX hY X Y|((first|refine vR tok (by rw [hnt];rfl) ?_|refine vC fun X Y hX hY=>?_|refine vK ?_|refine vT ?_|refine vF [] ?_|(refine runS_c [] (iBankOk_ok b (by omega) (by omega) h3) rfl ?_ ?_ ?_)|refine runS_c [] (userOk_ok _) rfl ?_ ?_ ?_|(refine runS_c [] (coinsOf_note kind (by omega)) rfl ?_ ?_ ?_)|refine runS_c [] (ledgerOf_ok b q6 q7) rfl ?_ ?_ ?_|refine runS_c [2,3] (noteCoins_ok _) rfl ?_ ?_ ?_|((first|apply gR|apply gC)<;>intro hq<;>(try simp only [nT,nF,n1,n0] at hq)<;>(have hb:=hq)<;>(try simp only [dT,dF,eT,eF] at hb)<;>first|(exfalso;omega)|((try simp only [hq]);clear hq)))<;>(try simp only [go_sem,qa,qb,qc,qd,qe,qf,qg,qh,qi,qj,qk,ql,qm,qn,qo,qp,qq,qr,qs,reduceIte,reduceCtorEq,gb,gs,gd,s2,l2,Bank.none])))
     all_goals try omega
 · by_cases hk1:kind=1
   · have gk:In kind 1 2=true:=by rw [In_iff];omega
     refine vO tok Tryz.func67 rfl rfl Tryz.ntmps67 Tryz.results67 rfl (by decide) (fun cx hnt hk0=>?_)
     repeat' (first|refine vS fun K hK=>?_|refine hK _ ?_;clear hK K|refine hX ?_;clear hX hY X Y|refine hY ?_;clear hX hY X Y|((first|refine vR tok (by rw [hnt];rfl) ?_|refine vC fun X Y hX hY=>?_|refine vK ?_|refine vT ?_|refine vF [] ?_|(refine runS_c [] (iBankOk_ok b (by omega) (by omega) h3) rfl ?_ ?_ ?_)|refine runS_c [] (userOk_ok _) rfl ?_ ?_ ?_|refine runS_c [] (coinsOf_own kind hk1) rfl ?_ ?_ ?_|((first|apply gR|apply gC)<;>intro hq<;>(try simp only [nT,nF,n1,n0] at hq)<;>(have hb:=hq)<;>(try simp only [dT,dF,eT,eF] at hb)<;>first|(exfalso;omega)|((try simp only [hq]);clear hq)))<;>(try simp only [go_sem,qa,qb,qc,qd,qe,qf,qg,qh,qi,qj,qk,ql,qm,qn,qo,qp,qq,qr,qs,reduceIte,reduceCtorEq,Bank.none])))
     all_goals exact absurd ⟨by assumption,gk,by assumption,by assumption,by omega⟩ hg
   · by_cases hk2:kind=2
     · have gk:In kind 1 2=true:=by rw [In_iff];omega
       refine vO tok Tryz.func67 rfl rfl Tryz.ntmps67 Tryz.results67 rfl (by decide) (fun cx hnt hk0=>?_)
       repeat' (first|refine vS fun K hK=>?_|refine hK _ ?_;clear hK K|refine hX ?_;clear hX hY X Y|refine hY ?_;clear hX hY X Y|((first|refine vR tok (by rw [hnt];rfl) ?_|refine vC fun X Y hX hY=>?_|refine vK ?_|refine vT ?_|refine vF [] ?_|(refine runS_c [] (iBankOk_ok b (by omega) (by omega) h3) rfl ?_ ?_ ?_)|refine runS_c [] (userOk_ok _) rfl ?_ ?_ ?_|refine runS_c [] (coinsOf_note kind hk2) rfl ?_ ?_ ?_|((first|apply gR|apply gC)<;>intro hq<;>(try simp only [nT,nF,n1,n0] at hq)<;>(have hb:=hq)<;>(try simp only [dT,dF,eT,eF] at hb)<;>first|(exfalso;omega)|((try simp only [hq]);clear hq)))<;>(try simp only [go_sem,qa,qb,qc,qd,qe,qf,qg,qh,qi,qj,qk,ql,qm,qn,qo,qp,qq,qr,qs,reduceIte,reduceCtorEq,Bank.none])))
       all_goals exact absurd ⟨by assumption,gk,by assumption,by assumption,by omega⟩ hg
     · refine vO tok Tryz.func67 rfl rfl Tryz.ntmps67 Tryz.results67 rfl (by decide) (fun cx hnt hk0=>?_)
       repeat' (first|refine vS fun K hK=>?_|refine hK _ ?_;clear hK K|refine hX ?_;clear hX hY X Y|((first|refine vR tok (by rw [hnt];rfl) ?_|refine vC fun X Y hX hY=>?_|refine vT ?_|refine vF [] ?_|(refine runS_c [] (coinsOf_none kind (In12_no hk1 hk2)) rfl ?_ ?_ ?_))<;>(try simp only [go_sem,qa,qb,qc,qd,qe,qf,qg,qh,qi,qj,qk,ql,qm,qn,qo,qp,qq,qr,qs,reduceIte,reduceCtorEq,Bank.none])))
theorem iBankMove_yes (b:Bank) (kind src dst sum:Int) (h1:b.own.length≤1000) (h2:b.notes.length≤1000) (h3:b.locked < 1099511627776) (h:b.moveB kind src dst sum=true) :
   Call Tryz.prog 67 [b.av,I kind,I src,I dst,I sum] [] 0 (.tup [.g (bankA (b.moveD kind src dst sum) 0),BB true]) (bankH (b.moveD kind src dst sum) 0) 2:=by
 simp only [Bank.moveB,Bool.and_eq_true,decide_eq_true_eq] at h
 obtain ⟨gb,gk,gs,gd,g0,gA⟩:=h
 obtain ⟨q1,q2,q3,q4,q5⟩:=bank_ok gb
 have q6:=parts_len q1
 have q7:=parts_len q2
 have gs':=gs
 have gd':=gd
 rw [In_iff] at gk gs' gd'
 by_cases hd:kind=1
 · have gA:sum≤b.own.getD (src - 1).toNat 0:=by simpa only [Bank.at,Bank.list,if_pos hd] using gA
   have s1:=some_mE (l:=b.own) (k:=src) (by omega) (by omega)
   have l1:=lk_mE (l:=b.own) (k:=src) (by omega) (by omega)
   have u1:=fun v=>upd_mE (l:=b.own) (k:=src) (v:=v) (by omega) (by omega)
   have p1:=parts_get q1 (src - 1).toNat
   have q8:=parts_set q1 (i:=(src - 1).toNat) (v:=b.own.getD (src - 1).toNat 0 - sum) (by omega)
   have q9:=parts_len q8
   have p2:=parts_get q8 (dst - 1).toNat
   have s2:=some_mE (l:=b.own.set (src - 1).toNat (b.own.getD (src - 1).toNat 0 - sum)) (k:=dst) (by omega) (by omega)
   have l2:=lk_mE (l:=b.own.set (src - 1).toNat (b.own.getD (src - 1).toNat 0 - sum)) (k:=dst) (by omega) (by omega)
   have u2:=fun v=>upd_mE (l:=b.own.set (src - 1).toNat (b.own.getD (src - 1).toNat 0 - sum)) (k:=dst) (v:=v) (by omega) (by omega)
   have l3:((b.own.set (src - 1).toNat (b.own.getD (src - 1).toNat 0 - sum)).set (dst - 1).toNat ((b.own.set (src - 1).toNat (b.own.getD (src - 1).toNat 0 - sum)).getD (dst - 1).toNat 0+sum)).length=3:=by rw [List.length_set,q9]
   simp only [List.length_set] at u2
   refine vO tok Tryz.func67 rfl rfl Tryz.ntmps67 Tryz.results67 rfl (by decide) (fun cx hnt hk0=>?_)
   repeat' (first|refine vS fun K hK=>?_|refine hK _ ?_;clear hK K|refine hY ?_;clear hX hY X Y|((first|refine vR tok (by rw [hnt];rfl) ?_|refine vC fun X Y hX hY=>?_|refine vK ?_|refine vT ?_|refine vF [] ?_|(refine runS_c [] (iBankOk_ok b (by omega) (by omega) h3) rfl ?_ ?_ ?_)|refine runS_c [] (userOk_ok _) rfl ?_ ?_ ?_|refine runS_c [] (coinsOf_own kind hd) rfl ?_ ?_ ?_|refine runS_c [] (ledgerOf_ok b q6 q7) rfl ?_ ?_ ?_|refine runS_c [2,3] (ownCoins_ok _) rfl ?_ ?_ ?_|(refine runS_c [2,3] (ledgerBank_ok ⟨(b.own.set (src - 1).toNat (b.own.getD (src - 1).toNat 0 - sum)).set (dst - 1).toNat ((b.own.set (src - 1).toNat (b.own.getD (src - 1).toNat 0 - sum)).getD (dst - 1).toNat 0+sum),b.notes,b.locked⟩ l3 q7) rfl ?_ ?_ ?_)|((first|apply gR|apply gC)<;>intro hq<;>(try simp only [nT,nF,n1,n0] at hq)<;>(have hb:=hq)<;>(try simp only [dT,dF,eT,eF] at hb)<;>first|(exfalso;omega)|((try simp only [hq]);clear hq)))<;>(try simp only [go_sem,qa,qb,qc,qd,qe,qf,qg,qh,qi,qj,qk,ql,qm,qn,qo,qp,qq,qr,qs,reduceIte,reduceCtorEq,gb,gs,gd,s1,l1,u1,s2,l2,u2,Bank.moveD,Bank.dec,Bank.add,Bank.put,Bank.list,Bank.at,if_pos hd]))|refine Fits.of ?_ ?_|refine And.intro ?_ ?_|clear hK K)
   all_goals try omega
 · have gA:sum≤b.notes.getD (src - 1).toNat 0:=by simpa only [Bank.at,Bank.list,if_neg hd] using gA
   have s1:=some_mE (l:=b.notes) (k:=src) (by omega) (by omega)
   have l1:=lk_mE (l:=b.notes) (k:=src) (by omega) (by omega)
   have u1:=fun v=>upd_mE (l:=b.notes) (k:=src) (v:=v) (by omega) (by omega)
   have p1:=parts_get q2 (src - 1).toNat
   have q8:=parts_set q2 (i:=(src - 1).toNat) (v:=b.notes.getD (src - 1).toNat 0 - sum) (by omega)
   have q9:=parts_len q8
   have p2:=parts_get q8 (dst - 1).toNat
   have s2:=some_mE (l:=b.notes.set (src - 1).toNat (b.notes.getD (src - 1).toNat 0 - sum)) (k:=dst) (by omega) (by omega)
   have l2:=lk_mE (l:=b.notes.set (src - 1).toNat (b.notes.getD (src - 1).toNat 0 - sum)) (k:=dst) (by omega) (by omega)
   have u2:=fun v=>upd_mE (l:=b.notes.set (src - 1).toNat (b.notes.getD (src - 1).toNat 0 - sum)) (k:=dst) (v:=v) (by omega) (by omega)
   have l3:((b.notes.set (src - 1).toNat (b.notes.getD (src - 1).toNat 0 - sum)).set (dst - 1).toNat ((b.notes.set (src - 1).toNat (b.notes.getD (src - 1).toNat 0 - sum)).getD (dst - 1).toNat 0+sum)).length=3:=by rw [List.length_set,q9]
   simp only [List.length_set] at u2
   refine vO tok Tryz.func67 rfl rfl Tryz.ntmps67 Tryz.results67 rfl (by decide) (fun cx hnt hk0=>?_)
   repeat' (first|refine vS fun K hK=>?_|refine hK _ ?_;clear hK K|refine hY ?_;clear hX hY X Y|((first|refine vR tok (by rw [hnt];rfl) ?_|refine vC fun X Y hX hY=>?_|refine vK ?_|refine vT ?_|refine vF [] ?_|(refine runS_c [] (iBankOk_ok b (by omega) (by omega) h3) rfl ?_ ?_ ?_)|refine runS_c [] (userOk_ok _) rfl ?_ ?_ ?_|(refine runS_c [] (coinsOf_note kind (by omega)) rfl ?_ ?_ ?_)|refine runS_c [] (ledgerOf_ok b q6 q7) rfl ?_ ?_ ?_|refine runS_c [2,3] (noteCoins_ok _) rfl ?_ ?_ ?_|(refine runS_c [2,3] (ledgerBank_ok ⟨b.own,(b.notes.set (src - 1).toNat (b.notes.getD (src - 1).toNat 0 - sum)).set (dst - 1).toNat ((b.notes.set (src - 1).toNat (b.notes.getD (src - 1).toNat 0 - sum)).getD (dst - 1).toNat 0+sum),b.locked⟩ q6 l3) rfl ?_ ?_ ?_)|((first|apply gR|apply gC)<;>intro hq<;>(try simp only [nT,nF,n1,n0] at hq)<;>(have hb:=hq)<;>(try simp only [dT,dF,eT,eF] at hb)<;>first|(exfalso;omega)|((try simp only [hq]);clear hq)))<;>(try simp only [go_sem,qa,qb,qc,qd,qe,qf,qg,qh,qi,qj,qk,ql,qm,qn,qo,qp,qq,qr,qs,reduceIte,reduceCtorEq,gb,gs,gd,s1,l1,u1,s2,l2,u2,Bank.moveD,Bank.dec,Bank.add,Bank.put,Bank.list,Bank.at,if_neg hd]))|refine Fits.of ?_ ?_|refine And.intro ?_ ?_|clear hK K)
   all_goals try omega
def pl_do1_block0:Plan:=(.tak 0 (.tak 1 (.tak 2 (.tak 3 (.tak 4 (.tak 5 (.tak 6 (.tak 7 (.tak 8 (.tak 9 (.tak 10 (.tak 11 (.tak 12 (.tak 13 (.tak 14 (.tak 15 (.all (.cons 16 (.tak 17 (.tak 18 (.tak 19 (.all (.cons 20 (.all (.cons 21 (.tak 22 .done) .nil)) .nil))))) (.cons 20 (.all (.cons 16 (.tak 17 (.tak 18 (.tak 19 (.all (.cons 21 (.tak 22 .done) .nil))))) .nil)) .nil)))))))))))))))))))
attribute [go_sem] pl_do1_block0
theorem do1_block (a b:Chain) (e:Event) (ok1:wOk [a,b]=true) (hch:e.chain=1) (hk:e.kind=1):Call Tryz.prog 38 [.c (.ptr 0 0 0 0),e.av] (pairH ⟨a,b⟩ 3 10) 17 (.tup []) (pairH ⟨a.block,b⟩ 17 24) 31:=by
 obtain ⟨p1,p2,p3,p4,p5,p6⟩:=wOk_iff.1 ok1
 obtain ⟨q1,q2,q3,q4,q5,q6⟩:=chain_ok p1
 obtain ⟨u1,u2,u3,u4,u5,u6⟩:=chain_ok p2
 have cE:=chainOk_ok e.chain
 rw [show In e.chain 1 2=true from by rw [hch];decide] at cE
 · refine vO tok Tryz.func38 rfl rfl Tryz.ntmps38 Tryz.results38 rfl (by decide) (fun cx hnt hk0=>?_)

   repeat' (first|refine vS fun K hK=>?_|refine hK _ ?_;clear hK K|refine hX ?_;clear hX hY X Y|refine hY ?_;clear hX hY X Y|refine vB ?_|((first|refine vR tok (by rw [hnt];rfl) ?_|refine vC fun X Y hX hY=>?_|refine vK ?_|refine vF [] ?_|refine runS_c [] (cE) rfl ?_ ?_ ?_|refine runS_c [0,1,2] (ends_1 e.chain hch) rfl ?_ ?_ ?_|(refine runS_c [1,3,4,5,6,7,8,9] (iblock_ok a q3 (by omega)) rfl ?_ ?_ ?_)|(apply gC<;>intro hq<;>(try simp only [nT,nF,n1,n0] at hq)<;>(have hb:=hq)<;>(try simp only [dT,dF,eT,eF] at hb)<;>first|(exfalso;omega)|((try simp only [hq]);clear hq)))<;>(try simp only [go_sem,qa,qb,qc,qd,qe,qf,qg,qh,qi,qj,qk,ql,qm,qn,qo,qp,qq,qr,qs,reduceIte,reduceCtorEq])))
   all_goals try omega
theorem do1_know (a b:Chain) (e:Event) (ok1:wOk [a,b]=true) (hch:e.chain=1) (hk:e.kind=2):Call Tryz.prog 38 [.c (.ptr 0 0 0 0),e.av] (pairH ⟨a,b⟩ 3 10) 17 (.tup []) (pairH ⟨(a.know b e.height),b⟩ 17 24) 31:=by
 obtain ⟨p1,p2,p3,p4,p5,p6⟩:=wOk_iff.1 ok1
 obtain ⟨q1,q2,q3,q4,q5,q6⟩:=chain_ok p1
 obtain ⟨u1,u2,u3,u4,u5,u6⟩:=chain_ok p2
 have cE:=chainOk_ok e.chain
 rw [show In e.chain 1 2=true from by rw [hch];decide] at cE
 · refine vO tok Tryz.func38 rfl rfl Tryz.ntmps38 Tryz.results38 rfl (by decide) (fun cx hnt hk0=>?_)

   repeat' (first|refine vS fun K hK=>?_|refine hK _ ?_;clear hK K|refine hX ?_;clear hX hY X Y|refine hY ?_;clear hX hY X Y|refine vB ?_|((first|refine vR tok (by rw [hnt];rfl) ?_|refine vC fun X Y hX hY=>?_|refine vK ?_|refine vF [] ?_|refine runS_c [] (cE) rfl ?_ ?_ ?_|refine runS_c [0,1,2] (ends_1 e.chain hch) rfl ?_ ?_ ?_|(refine runS_c [1,3,4,5,6,7,8,9,2,10,11,12,13,14,15,16] (iknow_ok a b e.height p1 (by omega)) rfl ?_ ?_ ?_)|(apply gC<;>intro hq<;>(try simp only [nT,nF,n1,n0] at hq)<;>(have hb:=hq)<;>(try simp only [dT,dF,eT,eF] at hb)<;>first|(exfalso;omega)|((try simp only [hq]);clear hq)))<;>(try simp only [go_sem,qa,qb,qc,qd,qe,qf,qg,qh,qi,qj,qk,ql,qm,qn,qo,qp,qq,qr,qs,reduceIte,reduceCtorEq])))
   all_goals try omega
theorem do1_send (a b:Chain) (e:Event) (ok1:wOk [a,b]=true) (hch:e.chain=1) (hk:e.kind=3):Call Tryz.prog 38 [.c (.ptr 0 0 0 0),e.av] (pairH ⟨a,b⟩ 3 10) 17 (.tup []) (pairH ⟨(a.send e.packet.kind e.packet.src e.packet.dst e.packet.sum e.packet.till),b⟩ 17 24) 31:=by
 obtain ⟨p1,p2,p3,p4,p5,p6⟩:=wOk_iff.1 ok1
 obtain ⟨q1,q2,q3,q4,q5,q6⟩:=chain_ok p1
 obtain ⟨u1,u2,u3,u4,u5,u6⟩:=chain_ok p2
 have cE:=chainOk_ok e.chain
 rw [show In e.chain 1 2=true from by rw [hch];decide] at cE
 · refine vO tok Tryz.func38 rfl rfl Tryz.ntmps38 Tryz.results38 rfl (by decide) (fun cx hnt hk0=>?_)

   repeat' (first|refine vS fun K hK=>?_|refine hK _ ?_;clear hK K|refine hX ?_;clear hX hY X Y|refine hY ?_;clear hX hY X Y|refine vB ?_|((first|refine vR tok (by rw [hnt];rfl) ?_|refine vC fun X Y hX hY=>?_|refine vK ?_|refine vF [] ?_|refine runS_c [] (cE) rfl ?_ ?_ ?_|refine runS_c [0,1,2] (ends_1 e.chain hch) rfl ?_ ?_ ?_|refine runS_c [1,3,4,5,6,7,8,9] (isend_ok a e.packet.kind e.packet.src e.packet.dst e.packet.sum e.packet.till p1) rfl ?_ ?_ ?_|(apply gC<;>intro hq<;>(try simp only [nT,nF,n1,n0] at hq)<;>(have hb:=hq)<;>(try simp only [dT,dF,eT,eF] at hb)<;>first|(exfalso;omega)|((try simp only [hq]);clear hq)))<;>(try simp only [go_sem,qa,qb,qc,qd,qe,qf,qg,qh,qi,qj,qk,ql,qm,qn,qo,qp,qq,qr,qs,reduceIte,reduceCtorEq])))
   all_goals try omega
theorem do1_move (a b:Chain) (e:Event) (ok1:wOk [a,b]=true) (hch:e.chain=1) (hk:e.kind=8):Call Tryz.prog 38 [.c (.ptr 0 0 0 0),e.av] (pairH ⟨a,b⟩ 3 10) 17 (.tup []) (pairH ⟨(a.move e.packet.kind e.packet.src e.packet.dst e.packet.sum),b⟩ 17 24) 31:=by
 obtain ⟨p1,p2,p3,p4,p5,p6⟩:=wOk_iff.1 ok1
 obtain ⟨q1,q2,q3,q4,q5,q6⟩:=chain_ok p1
 obtain ⟨u1,u2,u3,u4,u5,u6⟩:=chain_ok p2
 have cE:=chainOk_ok e.chain
 rw [show In e.chain 1 2=true from by rw [hch];decide] at cE
 obtain ⟨b1,b2,b3,b4,b5⟩:=bank_ok q2
 have b6:=parts_len b1
 have b7:=parts_len b2
 have b8:=parts_all b1
 unfold Chain.move
 cases hB:a.bank.moveB e.packet.kind e.packet.src e.packet.dst e.packet.sum
 · refine vO tok Tryz.func38 rfl rfl Tryz.ntmps38 Tryz.results38 rfl (by decide) (fun cx hnt hk0=>?_)

   repeat' (first|refine vS fun K hK=>?_|refine hK _ ?_;clear hK K|refine hX ?_;clear hX hY X Y|refine hY ?_;clear hX hY X Y|refine vB ?_|((first|refine vR tok (by rw [hnt];rfl) ?_|refine vC fun X Y hX hY=>?_|refine vK ?_|refine vF [] ?_|refine runS_c [] (cE) rfl ?_ ?_ ?_|refine runS_c [0,1,2] (ends_1 e.chain hch) rfl ?_ ?_ ?_|(refine AWp.draw (id:=11) tok mixed pl_do1_block0 [1,17] [3,4] (by kernel_rfl) (by kernel_rfl) (by rw [hnt];rfl) ?_)|(refine effS_v [] (iBankMove_no a.bank _ _ _ _ (by omega) (by omega) (by omega) hB) ?_ ?_ ?_ ?_ ?_)|(apply gC<;>intro hq<;>(try simp only [nT,nF,n1,n0] at hq)<;>(have hb:=hq)<;>(try simp only [dT,dF,eT,eF] at hb)<;>first|(exfalso;omega)|((try simp only [hq]);clear hq)))<;>(try simp only [go_sem,qa,qb,qc,qd,qe,qf,qg,qh,qi,qj,qk,ql,qm,qn,qo,qp,qq,qr,qs,reduceIte,reduceCtorEq,Bool.false_eq_true,if_false]))|refine And.intro ?_ ?_)
   all_goals try omega
 · refine vO tok Tryz.func38 rfl rfl Tryz.ntmps38 Tryz.results38 rfl (by decide) (fun cx hnt hk0=>?_)

   repeat' (first|refine vS fun K hK=>?_|refine hK _ ?_;clear hK K|refine hX ?_;clear hX hY X Y|refine hY ?_;clear hX hY X Y|refine vB ?_|((first|refine vR tok (by rw [hnt];rfl) ?_|refine vC fun X Y hX hY=>?_|refine vK ?_|refine vF [] ?_|refine runS_c [] (cE) rfl ?_ ?_ ?_|refine runS_c [0,1,2] (ends_1 e.chain hch) rfl ?_ ?_ ?_|(refine AWp.draw (id:=11) tok mixed pl_do1_block0 [1,17] [3,4] (by kernel_rfl) (by kernel_rfl) (by rw [hnt];rfl) ?_)|(refine effS_v [] (iBankMove_yes a.bank _ _ _ _ (by omega) (by omega) (by omega) hB) ?_ ?_ ?_ ?_ ?_)|(apply gC<;>intro hq<;>(try simp only [nT,nF,n1,n0] at hq)<;>(have hb:=hq)<;>(try simp only [dT,dF,eT,eF] at hb)<;>first|(exfalso;omega)|((try simp only [hq]);clear hq)))<;>(try simp only [go_sem,qa,qb,qc,qd,qe,qf,qg,qh,qi,qj,qk,ql,qm,qn,qo,qp,qq,qr,qs,reduceIte,reduceCtorEq,if_true]))|refine And.intro ?_ ?_)
   all_goals try omega
theorem do1_none (a b:Chain) (e:Event) (ok1:wOk [a,b]=true) (hch:e.chain=1) (hk:e.kind < 1 ∨ 8 < e.kind):Call Tryz.prog 38 [.c (.ptr 0 0 0 0),e.av] (pairH ⟨a,b⟩ 3 10) 17 (.tup []) (pairH ⟨a,b⟩ 17 24) 31:=by
 obtain ⟨p1,p2,p3,p4,p5,p6⟩:=wOk_iff.1 ok1
 obtain ⟨q1,q2,q3,q4,q5,q6⟩:=chain_ok p1
 obtain ⟨u1,u2,u3,u4,u5,u6⟩:=chain_ok p2
 have cE:=chainOk_ok e.chain
 rw [show In e.chain 1 2=true from by rw [hch];decide] at cE
 · refine vO tok Tryz.func38 rfl rfl Tryz.ntmps38 Tryz.results38 rfl (by decide) (fun cx hnt hk0=>?_)

   repeat' (first|refine vS fun K hK=>?_|refine hK _ ?_;clear hK K|refine hY ?_;clear hX hY X Y|refine vB ?_|((first|refine vR tok (by rw [hnt];rfl) ?_|refine vC fun X Y hX hY=>?_|refine vK ?_|refine vF [] ?_|refine runS_c [] (cE) rfl ?_ ?_ ?_|refine runS_c [0,1,2] (ends_1 e.chain hch) rfl ?_ ?_ ?_|(apply gC<;>intro hq<;>(try simp only [nT,nF,n1,n0] at hq)<;>(have hb:=hq)<;>(try simp only [dT,dF,eT,eF] at hb)<;>first|(exfalso;omega)|((try simp only [hq]);clear hq)))<;>(try simp only [go_sem,qa,qb,qc,qd,qe,qf,qg,qh,qi,qj,qk,ql,qm,qn,qo,qp,qq,qr,qs,reduceIte,reduceCtorEq])))
   all_goals try omega
theorem do1_new (a b:Chain) (e:Event) (ok1:wOk [a,b]=true) (hch:e.chain=1) (hk:e.kind=7) (hn:e.n=1 ∨ e.n=5):Call Tryz.prog 38 [.c (.ptr 0 0 0 0),e.av] (pairH ⟨a,b⟩ 3 10) 17 (.tup []) (pairH ⟨(a.relayed State.new 0 e),b⟩ 17 24) 31:=by
 obtain ⟨p1,p2,p3,p4,p5,p6⟩:=wOk_iff.1 ok1
 obtain ⟨q1,q2,q3,q4,q5,q6⟩:=chain_ok p1
 obtain ⟨u1,u2,u3,u4,u5,u6⟩:=chain_ok p2
 have cE:=chainOk_ok e.chain
 rw [show In e.chain 1 2=true from by rw [hch];decide] at cE
 · refine vO tok Tryz.func38 rfl rfl Tryz.ntmps38 Tryz.results38 rfl (by decide) (fun cx hnt hk0=>?_)

   repeat' (first|refine vS fun K hK=>?_|refine hK _ ?_;clear hK K|refine hX ?_;clear hX hY X Y|refine hY ?_;clear hX hY X Y|refine vB ?_|((first|refine vR tok (by rw [hnt];rfl) ?_|refine vC fun X Y hX hY=>?_|refine vK ?_|refine vF [] ?_|refine runS_c [] (cE) rfl ?_ ?_ ?_|refine runS_c [0,1,2] (ends_1 e.chain hch) rfl ?_ ?_ ?_|refine runS_c [1,3,4,5,6,7,8,9,2,10,11,12,13,14,15,16] (proofFor_new a b e hk hn) rfl ?_ ?_ ?_|(refine runS_c [1,3,4,5,6,7,8,9] (relay_ok a State.new 0 e p1 (by decide)) rfl ?_ ?_ ?_)|(apply gC<;>intro hq<;>(try simp only [nT,nF,n1,n0] at hq)<;>(have hb:=hq)<;>(try simp only [dT,dF,eT,eF] at hb)<;>first|(exfalso;omega)|((try simp only [hq]);clear hq)))<;>(try simp only [go_sem,qa,qb,qc,qd,qe,qf,qg,qh,qi,qj,qk,ql,qm,qn,qo,qp,qq,qr,qs,reduceIte,reduceCtorEq])))
   all_goals try omega
theorem do1_no (a b:Chain) (e:Event) (ok1:wOk [a,b]=true) (hch:e.chain=1) (hk:4≤e.kind∧e.kind≤7) (hn:¬ (e.kind=7∧(e.n=1 ∨ e.n=5))) (hc:a.knows.contains e.height=false):Call Tryz.prog 38 [.c (.ptr 0 0 0 0),e.av] (pairH ⟨a,b⟩ 3 10) 17 (.tup []) (pairH ⟨a,b⟩ 17 24) 31:=by
 obtain ⟨p1,p2,p3,p4,p5,p6⟩:=wOk_iff.1 ok1
 obtain ⟨q1,q2,q3,q4,q5,q6⟩:=chain_ok p1
 obtain ⟨u1,u2,u3,u4,u5,u6⟩:=chain_ok p2
 have cE:=chainOk_ok e.chain
 rw [show In e.chain 1 2=true from by rw [hch];decide] at cE
 have q7:=knows_len q6
 · refine vO tok Tryz.func38 rfl rfl Tryz.ntmps38 Tryz.results38 rfl (by decide) (fun cx hnt hk0=>?_)

   repeat' (first|refine vS fun K hK=>?_|refine hK _ ?_;clear hK K|refine hX ?_;clear hX hY X Y|refine hY ?_;clear hX hY X Y|refine vB ?_|((first|refine vR tok (by rw [hnt];rfl) ?_|refine vC fun X Y hX hY=>?_|refine vK ?_|refine vF [] ?_|refine runS_c [] (cE) rfl ?_ ?_ ?_|refine runS_c [0,1,2] (ends_1 e.chain hch) rfl ?_ ?_ ?_|(refine runS_c [1,3,4,5,6,7,8,9,2,10,11,12,13,14,15,16] (proofFor_no a b e hn (by omega) hc) rfl ?_ ?_ ?_)|(apply gC<;>intro hq<;>(try simp only [nT,nF,n1,n0] at hq)<;>(have hb:=hq)<;>(try simp only [dT,dF,eT,eF] at hb)<;>first|(exfalso;omega)|((try simp only [hq]);clear hq)))<;>(try simp only [go_sem,qa,qb,qc,qd,qe,qf,qg,qh,qi,qj,qk,ql,qm,qn,qo,qp,qq,qr,qs,reduceIte,reduceCtorEq,proofNone])))
   all_goals try omega
theorem do1_yes (a b:Chain) (e:Event) (ok1:wOk [a,b]=true) (hch:e.chain=1) (hk:4≤e.kind∧e.kind≤7) (hn:¬ (e.kind=7∧(e.n=1 ∨ e.n=5))) (hc:a.knows.contains e.height=true):Call Tryz.prog 38 [.c (.ptr 0 0 0 0),e.av] (pairH ⟨a,b⟩ 3 10) 17 (.tup []) (pairH ⟨(a.relayed (b.at e.height) e.height e),b⟩ 17 24) 31:=by
 obtain ⟨p1,p2,p3,p4,p5,p6⟩:=wOk_iff.1 ok1
 obtain ⟨q1,q2,q3,q4,q5,q6⟩:=chain_ok p1
 obtain ⟨u1,u2,u3,u4,u5,u6⟩:=chain_ok p2
 have cE:=chainOk_ok e.chain
 rw [show In e.chain 1 2=true from by rw [hch];decide] at cE
 have q7:=knows_len q6
 obtain ⟨i1,i2⟩:=know_in p1 p5 hc
 have hs:(b.at e.height).ok=true:=u5 _ (by omega)
 · refine vO tok Tryz.func38 rfl rfl Tryz.ntmps38 Tryz.results38 rfl (by decide) (fun cx hnt hk0=>?_)

   repeat' (first|refine vS fun K hK=>?_|refine hK _ ?_;clear hK K|refine hX ?_;clear hX hY X Y|refine hY ?_;clear hX hY X Y|refine vB ?_|((first|refine vR tok (by rw [hnt];rfl) ?_|refine vC fun X Y hX hY=>?_|refine vK ?_|refine vF [] ?_|refine runS_c [] (cE) rfl ?_ ?_ ?_|refine runS_c [0,1,2] (ends_1 e.chain hch) rfl ?_ ?_ ?_|(refine runS_c [1,3,4,5,6,7,8,9,2,10,11,12,13,14,15,16] (proofFor_yes a b e hn (by omega) hc i1 i2 (by omega)) rfl ?_ ?_ ?_)|(refine runS_c [1,3,4,5,6,7,8,9] (relay_ok a (b.at e.height) e.height e p1 hs) rfl ?_ ?_ ?_)|(apply gC<;>intro hq<;>(try simp only [nT,nF,n1,n0] at hq)<;>(have hb:=hq)<;>(try simp only [dT,dF,eT,eF] at hb)<;>first|(exfalso;omega)|((try simp only [hq]);clear hq)))<;>(try simp only [go_sem,qa,qb,qc,qd,qe,qf,qg,qh,qi,qj,qk,ql,qm,qn,qo,qp,qq,qr,qs,reduceIte,reduceCtorEq])))
   all_goals try omega
theorem do1_ok (a b:Chain) (e:Event) (ok1:wOk [a,b]=true) (hch:e.chain=1):Call Tryz.prog 38 [.c (.ptr 0 0 0 0),e.av] (pairH ⟨a,b⟩ 3 10) 17 (.tup []) (pairH ⟨(a.on b e),b⟩ 17 24) 31:=by
 obtain ⟨p1,p2,p3,p4,p5,p6⟩:=wOk_iff.1 ok1
 by_cases h0:e.kind < 1 ∨ 8 < e.kind
 · rw [on_none h0];exact do1_none a b e ok1 hch h0
 by_cases h1:e.kind=1
 · have:(a.on b e)=a.block:=by unfold Chain.on;rw [if_pos h1]
   rw [this];exact do1_block a b e ok1 hch h1
 by_cases h2:e.kind=2
 · have:(a.on b e)=a.know b e.height:=by unfold Chain.on;rw [if_neg h1,if_pos h2]
   rw [this];exact do1_know a b e ok1 hch h2
 by_cases h3:e.kind=3
 · have:(a.on b e)=a.send e.packet.kind e.packet.src e.packet.dst e.packet.sum e.packet.till:=by unfold Chain.on;rw [if_neg h1,if_neg h2,if_pos h3]
   rw [this];exact do1_send a b e ok1 hch h3
 by_cases h8:e.kind=8
 · have:(a.on b e)=a.move e.packet.kind e.packet.src e.packet.dst e.packet.sum:=by unfold Chain.on;rw [if_neg h1,if_neg h2,if_neg h3,if_pos h8]
   rw [this];exact do1_move a b e ok1 hch h8
 by_cases hn:e.kind=7∧(e.n=1 ∨ e.n=5)
 · rw [on_new hn.1 hn.2];exact do1_new a b e ok1 hch hn.1 hn.2
 rw [on_relayed p1 p2 p5 (by omega) hn]
 cases hc:a.knows.contains e.height
 · rw [if_neg (by simp)];exact do1_no a b e ok1 hch (by omega) hn hc
 · rw [if_pos rfl];exact do1_yes a b e ok1 hch (by omega) hn hc
def pl_do2_block0:Plan:=(.tak 0 (.tak 1 (.tak 2 (.tak 3 (.tak 4 (.tak 5 (.tak 6 (.tak 7 (.tak 8 (.tak 9 (.tak 10 (.tak 11 (.tak 12 (.tak 13 (.tak 14 (.tak 15 (.all (.cons 16 (.tak 17 (.tak 18 (.tak 19 (.all (.cons 20 (.all (.cons 21 (.tak 22 .done) .nil)) .nil))))) (.cons 20 (.all (.cons 16 (.tak 17 (.tak 18 (.tak 19 (.all (.cons 21 (.tak 22 .done) .nil))))) .nil)) .nil)))))))))))))))))))
attribute [go_sem] pl_do2_block0
theorem do2_block (a b:Chain) (e:Event) (ok1:wOk [a,b]=true) (hch:e.chain=2) (hk:e.kind=1):Call Tryz.prog 38 [.c (.ptr 0 0 0 0),e.av] (pairH ⟨a,b⟩ 3 10) 17 (.tup []) (pairH ⟨a,b.block⟩ 17 24) 31:=by
 obtain ⟨p1,p2,p3,p4,p5,p6⟩:=wOk_iff.1 ok1
 obtain ⟨q1,q2,q3,q4,q5,q6⟩:=chain_ok p2
 obtain ⟨u1,u2,u3,u4,u5,u6⟩:=chain_ok p1
 have cE:=chainOk_ok e.chain
 rw [show In e.chain 1 2=true from by rw [hch];decide] at cE
 · refine vO tok Tryz.func38 rfl rfl Tryz.ntmps38 Tryz.results38 rfl (by decide) (fun cx hnt hk0=>?_)

   repeat' (first|refine vS fun K hK=>?_|refine hK _ ?_;clear hK K|refine hX ?_;clear hX hY X Y|refine hY ?_;clear hX hY X Y|refine vB ?_|((first|refine vR tok (by rw [hnt];rfl) ?_|refine vC fun X Y hX hY=>?_|refine vK ?_|refine vF [] ?_|refine runS_c [] (cE) rfl ?_ ?_ ?_|refine runS_c [0,1,2] (ends_2 e.chain hch) rfl ?_ ?_ ?_|(refine runS_c [2,10,11,12,13,14,15,16] (iblock_ok b q3 (by omega)) rfl ?_ ?_ ?_)|(apply gC<;>intro hq<;>(try simp only [nT,nF,n1,n0] at hq)<;>(have hb:=hq)<;>(try simp only [dT,dF,eT,eF] at hb)<;>first|(exfalso;omega)|((try simp only [hq]);clear hq)))<;>(try simp only [go_sem,qa,qb,qc,qd,qe,qf,qg,qh,qi,qj,qk,ql,qm,qn,qo,qp,qq,qr,qs,reduceIte,reduceCtorEq])))
   all_goals try omega
theorem do2_know (a b:Chain) (e:Event) (ok1:wOk [a,b]=true) (hch:e.chain=2) (hk:e.kind=2):Call Tryz.prog 38 [.c (.ptr 0 0 0 0),e.av] (pairH ⟨a,b⟩ 3 10) 17 (.tup []) (pairH ⟨a,(b.know a e.height)⟩ 17 24) 31:=by
 obtain ⟨p1,p2,p3,p4,p5,p6⟩:=wOk_iff.1 ok1
 obtain ⟨q1,q2,q3,q4,q5,q6⟩:=chain_ok p2
 obtain ⟨u1,u2,u3,u4,u5,u6⟩:=chain_ok p1
 have cE:=chainOk_ok e.chain
 rw [show In e.chain 1 2=true from by rw [hch];decide] at cE
 · refine vO tok Tryz.func38 rfl rfl Tryz.ntmps38 Tryz.results38 rfl (by decide) (fun cx hnt hk0=>?_)

   repeat' (first|refine vS fun K hK=>?_|refine hK _ ?_;clear hK K|refine hX ?_;clear hX hY X Y|refine hY ?_;clear hX hY X Y|refine vB ?_|((first|refine vR tok (by rw [hnt];rfl) ?_|refine vC fun X Y hX hY=>?_|refine vK ?_|refine vF [] ?_|refine runS_c [] (cE) rfl ?_ ?_ ?_|refine runS_c [0,1,2] (ends_2 e.chain hch) rfl ?_ ?_ ?_|(refine runS_c [2,10,11,12,13,14,15,16,1,3,4,5,6,7,8,9] (iknow_ok b a e.height p2 (by omega)) rfl ?_ ?_ ?_)|(apply gC<;>intro hq<;>(try simp only [nT,nF,n1,n0] at hq)<;>(have hb:=hq)<;>(try simp only [dT,dF,eT,eF] at hb)<;>first|(exfalso;omega)|((try simp only [hq]);clear hq)))<;>(try simp only [go_sem,qa,qb,qc,qd,qe,qf,qg,qh,qi,qj,qk,ql,qm,qn,qo,qp,qq,qr,qs,reduceIte,reduceCtorEq])))
   all_goals try omega
theorem do2_send (a b:Chain) (e:Event) (ok1:wOk [a,b]=true) (hch:e.chain=2) (hk:e.kind=3):Call Tryz.prog 38 [.c (.ptr 0 0 0 0),e.av] (pairH ⟨a,b⟩ 3 10) 17 (.tup []) (pairH ⟨a,(b.send e.packet.kind e.packet.src e.packet.dst e.packet.sum e.packet.till)⟩ 17 24) 31:=by
 obtain ⟨p1,p2,p3,p4,p5,p6⟩:=wOk_iff.1 ok1
 obtain ⟨q1,q2,q3,q4,q5,q6⟩:=chain_ok p2
 obtain ⟨u1,u2,u3,u4,u5,u6⟩:=chain_ok p1
 have cE:=chainOk_ok e.chain
 rw [show In e.chain 1 2=true from by rw [hch];decide] at cE
 · refine vO tok Tryz.func38 rfl rfl Tryz.ntmps38 Tryz.results38 rfl (by decide) (fun cx hnt hk0=>?_)

   repeat' (first|refine vS fun K hK=>?_|refine hK _ ?_;clear hK K|refine hX ?_;clear hX hY X Y|refine hY ?_;clear hX hY X Y|refine vB ?_|((first|refine vR tok (by rw [hnt];rfl) ?_|refine vC fun X Y hX hY=>?_|refine vK ?_|refine vF [] ?_|refine runS_c [] (cE) rfl ?_ ?_ ?_|refine runS_c [0,1,2] (ends_2 e.chain hch) rfl ?_ ?_ ?_|refine runS_c [2,10,11,12,13,14,15,16] (isend_ok b e.packet.kind e.packet.src e.packet.dst e.packet.sum e.packet.till p2) rfl ?_ ?_ ?_|(apply gC<;>intro hq<;>(try simp only [nT,nF,n1,n0] at hq)<;>(have hb:=hq)<;>(try simp only [dT,dF,eT,eF] at hb)<;>first|(exfalso;omega)|((try simp only [hq]);clear hq)))<;>(try simp only [go_sem,qa,qb,qc,qd,qe,qf,qg,qh,qi,qj,qk,ql,qm,qn,qo,qp,qq,qr,qs,reduceIte,reduceCtorEq])))
   all_goals try omega
theorem do2_move (a b:Chain) (e:Event) (ok1:wOk [a,b]=true) (hch:e.chain=2) (hk:e.kind=8):Call Tryz.prog 38 [.c (.ptr 0 0 0 0),e.av] (pairH ⟨a,b⟩ 3 10) 17 (.tup []) (pairH ⟨a,(b.move e.packet.kind e.packet.src e.packet.dst e.packet.sum)⟩ 17 24) 31:=by
 obtain ⟨p1,p2,p3,p4,p5,p6⟩:=wOk_iff.1 ok1
 obtain ⟨q1,q2,q3,q4,q5,q6⟩:=chain_ok p2
 obtain ⟨u1,u2,u3,u4,u5,u6⟩:=chain_ok p1
 have cE:=chainOk_ok e.chain
 rw [show In e.chain 1 2=true from by rw [hch];decide] at cE
 obtain ⟨b1,b2,b3,b4,b5⟩:=bank_ok q2
 have b6:=parts_len b1
 have b7:=parts_len b2
 have b8:=parts_all b1
 unfold Chain.move
 cases hB:b.bank.moveB e.packet.kind e.packet.src e.packet.dst e.packet.sum
 · refine vO tok Tryz.func38 rfl rfl Tryz.ntmps38 Tryz.results38 rfl (by decide) (fun cx hnt hk0=>?_)

   repeat' (first|refine vS fun K hK=>?_|refine hK _ ?_;clear hK K|refine hX ?_;clear hX hY X Y|refine hY ?_;clear hX hY X Y|refine vB ?_|((first|refine vR tok (by rw [hnt];rfl) ?_|refine vC fun X Y hX hY=>?_|refine vK ?_|refine vF [] ?_|refine runS_c [] (cE) rfl ?_ ?_ ?_|refine runS_c [0,1,2] (ends_2 e.chain hch) rfl ?_ ?_ ?_|(refine AWp.draw (id:=11) tok mixed pl_do2_block0 [2,17] [3,4] (by kernel_rfl) (by kernel_rfl) (by rw [hnt];rfl) ?_)|(refine effS_v [] (iBankMove_no b.bank _ _ _ _ (by omega) (by omega) (by omega) hB) ?_ ?_ ?_ ?_ ?_)|(apply gC<;>intro hq<;>(try simp only [nT,nF,n1,n0] at hq)<;>(have hb:=hq)<;>(try simp only [dT,dF,eT,eF] at hb)<;>first|(exfalso;omega)|((try simp only [hq]);clear hq)))<;>(try simp only [go_sem,qa,qb,qc,qd,qe,qf,qg,qh,qi,qj,qk,ql,qm,qn,qo,qp,qq,qr,qs,reduceIte,reduceCtorEq,Bool.false_eq_true,if_false]))|refine And.intro ?_ ?_)
   all_goals try omega
 · refine vO tok Tryz.func38 rfl rfl Tryz.ntmps38 Tryz.results38 rfl (by decide) (fun cx hnt hk0=>?_)

   repeat' (first|refine vS fun K hK=>?_|refine hK _ ?_;clear hK K|refine hX ?_;clear hX hY X Y|refine hY ?_;clear hX hY X Y|refine vB ?_|((first|refine vR tok (by rw [hnt];rfl) ?_|refine vC fun X Y hX hY=>?_|refine vK ?_|refine vF [] ?_|refine runS_c [] (cE) rfl ?_ ?_ ?_|refine runS_c [0,1,2] (ends_2 e.chain hch) rfl ?_ ?_ ?_|(refine AWp.draw (id:=11) tok mixed pl_do2_block0 [2,17] [3,4] (by kernel_rfl) (by kernel_rfl) (by rw [hnt];rfl) ?_)|(refine effS_v [] (iBankMove_yes b.bank _ _ _ _ (by omega) (by omega) (by omega) hB) ?_ ?_ ?_ ?_ ?_)|(apply gC<;>intro hq<;>(try simp only [nT,nF,n1,n0] at hq)<;>(have hb:=hq)<;>(try simp only [dT,dF,eT,eF] at hb)<;>first|(exfalso;omega)|((try simp only [hq]);clear hq)))<;>(try simp only [go_sem,qa,qb,qc,qd,qe,qf,qg,qh,qi,qj,qk,ql,qm,qn,qo,qp,qq,qr,qs,reduceIte,reduceCtorEq,if_true]))|refine And.intro ?_ ?_)
   all_goals try omega
theorem do2_none (a b:Chain) (e:Event) (ok1:wOk [a,b]=true) (hch:e.chain=2) (hk:e.kind < 1 ∨ 8 < e.kind):Call Tryz.prog 38 [.c (.ptr 0 0 0 0),e.av] (pairH ⟨a,b⟩ 3 10) 17 (.tup []) (pairH ⟨a,b⟩ 17 24) 31:=by
 obtain ⟨p1,p2,p3,p4,p5,p6⟩:=wOk_iff.1 ok1
 obtain ⟨q1,q2,q3,q4,q5,q6⟩:=chain_ok p2
 obtain ⟨u1,u2,u3,u4,u5,u6⟩:=chain_ok p1
 have cE:=chainOk_ok e.chain
 rw [show In e.chain 1 2=true from by rw [hch];decide] at cE
 · refine vO tok Tryz.func38 rfl rfl Tryz.ntmps38 Tryz.results38 rfl (by decide) (fun cx hnt hk0=>?_)

   repeat' (first|refine vS fun K hK=>?_|refine hK _ ?_;clear hK K|refine hY ?_;clear hX hY X Y|refine vB ?_|((first|refine vR tok (by rw [hnt];rfl) ?_|refine vC fun X Y hX hY=>?_|refine vK ?_|refine vF [] ?_|refine runS_c [] (cE) rfl ?_ ?_ ?_|refine runS_c [0,1,2] (ends_2 e.chain hch) rfl ?_ ?_ ?_|(apply gC<;>intro hq<;>(try simp only [nT,nF,n1,n0] at hq)<;>(have hb:=hq)<;>(try simp only [dT,dF,eT,eF] at hb)<;>first|(exfalso;omega)|((try simp only [hq]);clear hq)))<;>(try simp only [go_sem,qa,qb,qc,qd,qe,qf,qg,qh,qi,qj,qk,ql,qm,qn,qo,qp,qq,qr,qs,reduceIte,reduceCtorEq])))
   all_goals try omega
theorem do2_new (a b:Chain) (e:Event) (ok1:wOk [a,b]=true) (hch:e.chain=2) (hk:e.kind=7) (hn:e.n=1 ∨ e.n=5):Call Tryz.prog 38 [.c (.ptr 0 0 0 0),e.av] (pairH ⟨a,b⟩ 3 10) 17 (.tup []) (pairH ⟨a,(b.relayed State.new 0 e)⟩ 17 24) 31:=by
 obtain ⟨p1,p2,p3,p4,p5,p6⟩:=wOk_iff.1 ok1
 obtain ⟨q1,q2,q3,q4,q5,q6⟩:=chain_ok p2
 obtain ⟨u1,u2,u3,u4,u5,u6⟩:=chain_ok p1
 have cE:=chainOk_ok e.chain
 rw [show In e.chain 1 2=true from by rw [hch];decide] at cE
 · refine vO tok Tryz.func38 rfl rfl Tryz.ntmps38 Tryz.results38 rfl (by decide) (fun cx hnt hk0=>?_)

   repeat' (first|refine vS fun K hK=>?_|refine hK _ ?_;clear hK K|refine hX ?_;clear hX hY X Y|refine hY ?_;clear hX hY X Y|refine vB ?_|((first|refine vR tok (by rw [hnt];rfl) ?_|refine vC fun X Y hX hY=>?_|refine vK ?_|refine vF [] ?_|refine runS_c [] (cE) rfl ?_ ?_ ?_|refine runS_c [0,1,2] (ends_2 e.chain hch) rfl ?_ ?_ ?_|refine runS_c [2,10,11,12,13,14,15,16,1,3,4,5,6,7,8,9] (proofFor_new b a e hk hn) rfl ?_ ?_ ?_|(refine runS_c [2,10,11,12,13,14,15,16] (relay_ok b State.new 0 e p2 (by decide)) rfl ?_ ?_ ?_)|(apply gC<;>intro hq<;>(try simp only [nT,nF,n1,n0] at hq)<;>(have hb:=hq)<;>(try simp only [dT,dF,eT,eF] at hb)<;>first|(exfalso;omega)|((try simp only [hq]);clear hq)))<;>(try simp only [go_sem,qa,qb,qc,qd,qe,qf,qg,qh,qi,qj,qk,ql,qm,qn,qo,qp,qq,qr,qs,reduceIte,reduceCtorEq])))
   all_goals try omega
theorem do2_no (a b:Chain) (e:Event) (ok1:wOk [a,b]=true) (hch:e.chain=2) (hk:4≤e.kind∧e.kind≤7) (hn:¬ (e.kind=7∧(e.n=1 ∨ e.n=5))) (hc:b.knows.contains e.height=false):Call Tryz.prog 38 [.c (.ptr 0 0 0 0),e.av] (pairH ⟨a,b⟩ 3 10) 17 (.tup []) (pairH ⟨a,b⟩ 17 24) 31:=by
 obtain ⟨p1,p2,p3,p4,p5,p6⟩:=wOk_iff.1 ok1
 obtain ⟨q1,q2,q3,q4,q5,q6⟩:=chain_ok p2
 obtain ⟨u1,u2,u3,u4,u5,u6⟩:=chain_ok p1
 have cE:=chainOk_ok e.chain
 rw [show In e.chain 1 2=true from by rw [hch];decide] at cE
 have q7:=knows_len q6
 · refine vO tok Tryz.func38 rfl rfl Tryz.ntmps38 Tryz.results38 rfl (by decide) (fun cx hnt hk0=>?_)

   repeat' (first|refine vS fun K hK=>?_|refine hK _ ?_;clear hK K|refine hX ?_;clear hX hY X Y|refine hY ?_;clear hX hY X Y|refine vB ?_|((first|refine vR tok (by rw [hnt];rfl) ?_|refine vC fun X Y hX hY=>?_|refine vK ?_|refine vF [] ?_|refine runS_c [] (cE) rfl ?_ ?_ ?_|refine runS_c [0,1,2] (ends_2 e.chain hch) rfl ?_ ?_ ?_|(refine runS_c [2,10,11,12,13,14,15,16,1,3,4,5,6,7,8,9] (proofFor_no b a e hn (by omega) hc) rfl ?_ ?_ ?_)|(apply gC<;>intro hq<;>(try simp only [nT,nF,n1,n0] at hq)<;>(have hb:=hq)<;>(try simp only [dT,dF,eT,eF] at hb)<;>first|(exfalso;omega)|((try simp only [hq]);clear hq)))<;>(try simp only [go_sem,qa,qb,qc,qd,qe,qf,qg,qh,qi,qj,qk,ql,qm,qn,qo,qp,qq,qr,qs,reduceIte,reduceCtorEq,proofNone])))
   all_goals try omega
theorem do2_yes (a b:Chain) (e:Event) (ok1:wOk [a,b]=true) (hch:e.chain=2) (hk:4≤e.kind∧e.kind≤7) (hn:¬ (e.kind=7∧(e.n=1 ∨ e.n=5))) (hc:b.knows.contains e.height=true):Call Tryz.prog 38 [.c (.ptr 0 0 0 0),e.av] (pairH ⟨a,b⟩ 3 10) 17 (.tup []) (pairH ⟨a,(b.relayed (a.at e.height) e.height e)⟩ 17 24) 31:=by
 obtain ⟨p1,p2,p3,p4,p5,p6⟩:=wOk_iff.1 ok1
 obtain ⟨q1,q2,q3,q4,q5,q6⟩:=chain_ok p2
 obtain ⟨u1,u2,u3,u4,u5,u6⟩:=chain_ok p1
 have cE:=chainOk_ok e.chain
 rw [show In e.chain 1 2=true from by rw [hch];decide] at cE
 have q7:=knows_len q6
 obtain ⟨i1,i2⟩:=know_in p2 p6 hc
 have hs:(a.at e.height).ok=true:=u5 _ (by omega)
 · refine vO tok Tryz.func38 rfl rfl Tryz.ntmps38 Tryz.results38 rfl (by decide) (fun cx hnt hk0=>?_)

   repeat' (first|refine vS fun K hK=>?_|refine hK _ ?_;clear hK K|refine hX ?_;clear hX hY X Y|refine hY ?_;clear hX hY X Y|refine vB ?_|((first|refine vR tok (by rw [hnt];rfl) ?_|refine vC fun X Y hX hY=>?_|refine vK ?_|refine vF [] ?_|refine runS_c [] (cE) rfl ?_ ?_ ?_|refine runS_c [0,1,2] (ends_2 e.chain hch) rfl ?_ ?_ ?_|(refine runS_c [2,10,11,12,13,14,15,16,1,3,4,5,6,7,8,9] (proofFor_yes b a e hn (by omega) hc i1 i2 (by omega)) rfl ?_ ?_ ?_)|(refine runS_c [2,10,11,12,13,14,15,16] (relay_ok b (a.at e.height) e.height e p2 hs) rfl ?_ ?_ ?_)|(apply gC<;>intro hq<;>(try simp only [nT,nF,n1,n0] at hq)<;>(have hb:=hq)<;>(try simp only [dT,dF,eT,eF] at hb)<;>first|(exfalso;omega)|((try simp only [hq]);clear hq)))<;>(try simp only [go_sem,qa,qb,qc,qd,qe,qf,qg,qh,qi,qj,qk,ql,qm,qn,qo,qp,qq,qr,qs,reduceIte,reduceCtorEq])))
   all_goals try omega
theorem do2_ok (a b:Chain) (e:Event) (ok1:wOk [a,b]=true) (hch:e.chain=2):Call Tryz.prog 38 [.c (.ptr 0 0 0 0),e.av] (pairH ⟨a,b⟩ 3 10) 17 (.tup []) (pairH ⟨a,(b.on a e)⟩ 17 24) 31:=by
 obtain ⟨p1,p2,p3,p4,p5,p6⟩:=wOk_iff.1 ok1
 by_cases h0:e.kind < 1 ∨ 8 < e.kind
 · rw [on_none h0];exact do2_none a b e ok1 hch h0
 by_cases h1:e.kind=1
 · have:(b.on a e)=b.block:=by unfold Chain.on;rw [if_pos h1]
   rw [this];exact do2_block a b e ok1 hch h1
 by_cases h2:e.kind=2
 · have:(b.on a e)=b.know a e.height:=by unfold Chain.on;rw [if_neg h1,if_pos h2]
   rw [this];exact do2_know a b e ok1 hch h2
 by_cases h3:e.kind=3
 · have:(b.on a e)=b.send e.packet.kind e.packet.src e.packet.dst e.packet.sum e.packet.till:=by unfold Chain.on;rw [if_neg h1,if_neg h2,if_pos h3]
   rw [this];exact do2_send a b e ok1 hch h3
 by_cases h8:e.kind=8
 · have:(b.on a e)=b.move e.packet.kind e.packet.src e.packet.dst e.packet.sum:=by unfold Chain.on;rw [if_neg h1,if_neg h2,if_neg h3,if_pos h8]
   rw [this];exact do2_move a b e ok1 hch h8
 by_cases hn:e.kind=7∧(e.n=1 ∨ e.n=5)
 · rw [on_new hn.1 hn.2];exact do2_new a b e ok1 hch hn.1 hn.2
 rw [on_relayed p2 p1 p6 (by omega) hn]
 cases hc:b.knows.contains e.height
 · rw [if_neg (by simp)];exact do2_no a b e ok1 hch (by omega) hn hc
 · rw [if_pos rfl];exact do2_yes a b e ok1 hch (by omega) hn hc
theorem do_no (a b:Chain) (e:Event) (hch:In e.chain 1 2=false):Call Tryz.prog 38 [.c (.ptr 0 0 0 0),e.av] (pairH ⟨a,b⟩ 3 10) 17 (.tup []) (pairH ⟨a,b⟩ 17 24) 31:=by
 have cE:=chainOk_ok e.chain
 rw [hch] at cE
 refine vO tok Tryz.func38 rfl rfl Tryz.ntmps38 Tryz.results38 rfl (by decide) (fun cx hnt hk0=>?_)
 repeat' (first|refine vS fun K hK=>?_|refine hK _ ?_;clear hK K|refine hX ?_;clear hX hY X Y|((first|refine vR tok (by rw [hnt];rfl) ?_|refine vC fun X Y hX hY=>?_|refine vT ?_|refine vF [] ?_|(refine runS_c [] (cE) rfl ?_ ?_ ?_))<;>(try simp only [go_sem,qa,qb,qc,qd,qe,qf,qg,qh,qi,qj,qk,ql,qm,qn,qo,qp,qq,qr,qs,reduceIte,reduceCtorEq])))
theorem do_ok (w:Two) (e:Event) (ok1:wOk w.list=true):Call Tryz.prog 38 [.c (.ptr 0 0 0 0),e.av] (pairH w 3 10) 17 (.tup []) (pairH (w.on e) 17 24) 31:=by
 obtain ⟨a,b⟩:=w
 unfold Two.on
 by_cases h1:e.chain=1
 · rw [if_pos h1];exact do1_ok a b e ok1 h1
 by_cases h2:e.chain=2
 · rw [if_neg h1,if_pos h2];exact do2_ok a b e ok1 h2
 rw [if_neg h1,if_neg h2]
 exact do_no a b e (In12_no h1 h2)
theorem pairNew_ok:Call Tryz.prog 20 [] [] 0 (.o (.c (.ptr 0 0 0 0))) (pairH Two.new 3 10) 17:=by
 refine vO tok Tryz.func20 rfl rfl Tryz.ntmps20 Tryz.results20 rfl (by decide) (fun cx hnt hk0=>?_)
 repeat' (first|refine vS fun K hK=>?_|refine hK _ ?_;clear hK K|refine vB ?_|((refine vR tok (by rw [hnt];rfl) ?_)<;>(try simp only [go_sem,qa,qb,qc,qd,qe,qf,qg,qh,qi,qj,qk,ql,qm,qn,qo,qp,qq,qr,qs,reduceIte,reduceCtorEq])))
 all_goals refine AWp.loopN 3 fun L hL=>?_
 repeat' (first|refine vS fun K hK=>?_|refine hK _ ?_;clear hK K|refine hX ?_;clear hX hY X Y|refine hY ?_;clear hX hY X Y|refine vB ?_|refine hL _ _ ?_|((first|refine vR tok (by rw [hnt];rfl) ?_|refine vC fun X Y hX hY=>?_|refine vK ?_|refine vE ?_|refine vT ?_|refine vF [] ?_|(refine AWp.draw (id:=5) tok mixed (.tak 0 (.tak 1 (.tak 2 (.tak 3 (.tak 5 (.tak 6 (.all (.cons 4 (.tak 7 (.all (.cons 8 .done .nil))) .nil)))))))) [] [1,2] (by kernel_rfl) (by kernel_rfl) (by rw [hnt];rfl) ?_)|refine effS_c [] (linkNew_ok 1) rfl ?_ ?_ ?_|(refine effS_c [] (linkNew_ok 2) rfl ?_ ?_ ?_))<;>(try simp only [go_sem,qa,qb,qc,qd,qe,qf,qg,qh,qi,qj,qk,ql,qm,qn,qo,qp,qq,qr,qs,reduceIte,reduceCtorEq,Two.new,Chain.new,Bank.new,State.new,List.reverse_nil]))|refine Fits.of ?_ ?_|refine aL ?_ fun hp=>?_|refine And.intro ?_ ?_|clear hK K|clear hL L)
 all_goals try omega
def evBase (ch h:Int):List Event:=[evKnow ch h,evStep ch h 2,evStep ch h 3,evStep ch h 4,evStep ch h 6,evStep ch h 7]
def evPair (ch h:Int) (k:Nat):List Event:=[evTell ch h ((k:Int)+1),evLate ch h ((k:Int)+1)]
def evPairs (ch h:Int) (k:Nat):List Event:=(List.range k).flatMap (evPair ch h)
theorem evPairs_zero (ch h:Int):evPairs ch h 0=[]:=rfl
theorem evPair_len (ch h:Int) (k:Nat):(evPairs ch h k).length=2 * k:=by
 unfold evPairs
 induction k with
 | zero=>rfl
 | succ k ih=>rw [List.range_succ,List.flatMap_append,List.length_append,ih];simp [evPair];omega
theorem evPair_succ (ch h:Int) (k:Nat):evPairs ch h (k+1)=evPairs ch h k++[evTell ch h ((k:Int)+1)]++[evLate ch h ((k:Int)+1)]:=by
 unfold evPairs
 rw [List.range_succ,List.flatMap_append];simp [evPair]
theorem carry_list (o:Chain) (ch:Int):evBase ch o.past.length++o.state.sent.map (evGet ch o.past.length)++evPairs ch o.past.length 8=carryE o ch:=by
 unfold evPairs
 unfold evBase carryE stepsC
 have:(fun k:Nat=>[evTell ch o.past.length ((k:Int)+1),evLate ch o.past.length ((k:Int)+1)])=evPair ch o.past.length:=rfl
 rw [this];simp
theorem chE_cnt {cap:Nat} {L:List Event} {cl:Bool} {n m r:Nat} (h:n=m):chE cap L cl n r=chE cap L cl m r:=by rw [h]
theorem ev_bytes:(Tryz.prog.info? 76).map (·.bytes)=some 88:=by kernel_rfl
theorem relayed_1 (a b:Chain) (hok:wOk [a,b]=true):Call Tryz.prog 61 [.c (.ptr 0 0 0 0),I 1] (pairH ⟨a,b⟩ 3 10) 17 (.o (.c (.ch 17))) ((17,.raw (chE (b.state.sent.length+22) (carryE b 1) true (b.state.sent.length+22) 0)) ::pairH ⟨a,b⟩ 3 10) 18:=by
 have hab:=wOk_iff.1 hok
 obtain ⟨_,_,hst,hpl,_,_⟩:=chain_ok hab.2.1
 obtain ⟨_,_,hsl,_⟩:=state_ok hst
 have cE:=ends_1 1 rfl
 rw [← carry_list]
 refine vO tok Tryz.func61 rfl rfl Tryz.ntmps61 Tryz.results61 rfl (by decide) (fun cx hnt hk0=>?_)
 have hR:=fun (i n:Nat) (ops:List Oper) (Q:Exit→St→Prop) (s:St) (hd:dstOk cx.nt ops=true) h=>AWp.regN (P:=Tryz.prog) (c:=cx) (Q:=Q) (s:=s) (ops:=ops) (id:=i) n tok hd h

 repeat' (first|refine hR 4 8 _ _ _ (dst_of hnt rfl) ?_|refine vS fun K hK=>?_|refine hK _ ?_;clear hK K|((first|refine vR tok (by rw [hnt];rfl) ?_|(refine runS_c [0,1,2] (cE) rfl ?_ ?_ ?_))<;>(try simp only [go_sem,qa,qb,qc,qd,qe,qf,qg,qh,qi,qj,qk,ql,qm,qn,qo,qp,qq,qr,qs,reduceIte,reduceCtorEq])))
 all_goals try omega
 simp only [go_sem,qa,qb,qc,qd,qe,qf,qg,qh,qi,qj,qk,ql,qm,qn,qo,qp,qq,qr,qs,reduceIte,reduceCtorEq,List.take_succ_cons,List.take_zero,List.length_cons,List.length_nil,List.drop_succ_cons,List.drop_zero]
 repeat' (first|refine Fits.of ?_ ?_|refine And.intro ?_ ?_|clear hK K)
 all_goals try omega
 have em:((6:Int)+(b.state.sent.length:Nat)+16).toNat=b.state.sent.length+22:=by omega
 refine AWpI.mkch (dst_of hnt rfl) rfl rfl rfl rfl Tryz.underlying136 ev_bytes (by omega) (by omega) ?_
 refine AWpI.rest tok (dst_of hnt rfl) ?_
 simp only [go_sem,qa,qb,qc,qd,qe,qf,qg,qh,qi,qj,qk,ql,qm,qn,qo,qp,qq,qr,qs,reduceIte,reduceCtorEq,List.take_succ_cons,List.take_zero,List.length_cons,List.length_nil,List.drop_succ_cons,List.drop_zero,em]
 repeat' (first|refine hR 5 4 _ _ _ (dst_of hnt rfl) ?_|refine vS fun K hK=>?_|refine hK _ ?_;clear hK K)
 simp only [go_sem,qa,qb,qc,qd,qe,qf,qg,qh,qi,qj,qk,ql,qm,qn,qo,qp,qq,qr,qs,reduceIte,reduceCtorEq,List.take_succ_cons,List.take_zero,List.length_cons,List.length_nil,List.drop_succ_cons,List.drop_zero]
 skip
 refine AWpI.send (evKnow 1 (b.past.length:Nat)) rfl rfl rfl rfl rfl rfl rfl (by simp) ?_
 refine AWpI.done (by decide) ?_
 simp only [go_sem,qa,qb,qc,qd,qe,qf,qg,qh,qi,qj,qk,ql,qm,qn,qo,qp,qq,qr,qs,reduceIte,reduceCtorEq]
 repeat' (first|refine vS fun K hK=>?_|refine hK _ ?_;clear hK K|refine vB ?_|((refine vR tok (by rw [hnt];rfl) ?_)<;>(try simp only [go_sem,qa,qb,qc,qd,qe,qf,qg,qh,qi,qj,qk,ql,qm,qn,qo,qp,qq,qr,qs,reduceIte,reduceCtorEq])))
 refine AWp.loopN 6 fun L hL=>?_
 repeat' (first|refine hR 9 5 _ _ _ (dst_of hnt rfl) ?_|refine vS fun K hK=>?_|refine hK _ ?_;clear hK K|refine hX ?_;clear hX hY X Y|refine vB ?_|refine hL _ _ ?_|((first|refine vR tok (by rw [hnt];rfl) ?_|refine vC fun X Y hX hY=>?_|(refine vK ?_))<;>(try simp only [go_sem,qa,qb,qc,qd,qe,qf,qg,qh,qi,qj,qk,ql,qm,qn,qo,qp,qq,qr,qs,reduceIte,reduceCtorEq]))|refine aL ?_ fun hp=>?_|clear hK K|clear hL L)
 all_goals try omega
 simp only [go_sem,qa,qb,qc,qd,qe,qf,qg,qh,qi,qj,qk,ql,qm,qn,qo,qp,qq,qr,qs,reduceIte,reduceCtorEq,List.take_succ_cons,List.take_zero,List.length_cons,List.length_nil,List.drop_succ_cons,List.drop_zero]
 skip
 refine AWpI.send (evStep 1 (b.past.length:Nat) 2) rfl rfl rfl rfl rfl rfl rfl (by simp) ?_
 refine AWpI.done (by decide) ?_
 simp only [go_sem,qa,qb,qc,qd,qe,qf,qg,qh,qi,qj,qk,ql,qm,qn,qo,qp,qq,qr,qs,reduceIte,reduceCtorEq]
 repeat' (first|refine hR 9 5 _ _ _ (dst_of hnt rfl) ?_|refine vS fun K hK=>?_|refine hK _ ?_;clear hK K|refine hX ?_;clear hX hY X Y|refine vB ?_|refine hL _ _ ?_|((first|refine vR tok (by rw [hnt];rfl) ?_|refine vC fun X Y hX hY=>?_|(refine vK ?_))<;>(try simp only [go_sem,qa,qb,qc,qd,qe,qf,qg,qh,qi,qj,qk,ql,qm,qn,qo,qp,qq,qr,qs,reduceIte,reduceCtorEq]))|refine Fits.of ?_ ?_|refine aL ?_ fun hp=>?_|refine And.intro ?_ ?_|clear hK K|clear hL L)
 all_goals try omega
 simp only [go_sem,qa,qb,qc,qd,qe,qf,qg,qh,qi,qj,qk,ql,qm,qn,qo,qp,qq,qr,qs,reduceIte,reduceCtorEq,List.take_succ_cons,List.take_zero,List.length_cons,List.length_nil,List.drop_succ_cons,List.drop_zero]
 skip
 refine AWpI.send (evStep 1 (b.past.length:Nat) 3) rfl rfl rfl rfl rfl rfl rfl (by simp) ?_
 refine AWpI.done (by decide) ?_
 simp only [go_sem,qa,qb,qc,qd,qe,qf,qg,qh,qi,qj,qk,ql,qm,qn,qo,qp,qq,qr,qs,reduceIte,reduceCtorEq]
 repeat' (first|refine hR 9 5 _ _ _ (dst_of hnt rfl) ?_|refine vS fun K hK=>?_|refine hK _ ?_;clear hK K|refine hX ?_;clear hX hY X Y|refine vB ?_|refine hL _ _ ?_|((first|refine vR tok (by rw [hnt];rfl) ?_|refine vC fun X Y hX hY=>?_|(refine vK ?_))<;>(try simp only [go_sem,qa,qb,qc,qd,qe,qf,qg,qh,qi,qj,qk,ql,qm,qn,qo,qp,qq,qr,qs,reduceIte,reduceCtorEq]))|refine Fits.of ?_ ?_|refine aL ?_ fun hp=>?_|refine And.intro ?_ ?_|clear hK K|clear hL L)
 all_goals try omega
 simp only [go_sem,qa,qb,qc,qd,qe,qf,qg,qh,qi,qj,qk,ql,qm,qn,qo,qp,qq,qr,qs,reduceIte,reduceCtorEq,List.take_succ_cons,List.take_zero,List.length_cons,List.length_nil,List.drop_succ_cons,List.drop_zero]
 skip
 refine AWpI.send (evStep 1 (b.past.length:Nat) 4) rfl rfl rfl rfl rfl rfl rfl (by simp) ?_
 refine AWpI.done (by decide) ?_
 simp only [go_sem,qa,qb,qc,qd,qe,qf,qg,qh,qi,qj,qk,ql,qm,qn,qo,qp,qq,qr,qs,reduceIte,reduceCtorEq]
 repeat' (first|refine hR 9 5 _ _ _ (dst_of hnt rfl) ?_|refine vS fun K hK=>?_|refine hK _ ?_;clear hK K|refine hX ?_;clear hX hY X Y|refine vB ?_|refine hL _ _ ?_|((first|refine vR tok (by rw [hnt];rfl) ?_|refine vC fun X Y hX hY=>?_|(refine vK ?_))<;>(try simp only [go_sem,qa,qb,qc,qd,qe,qf,qg,qh,qi,qj,qk,ql,qm,qn,qo,qp,qq,qr,qs,reduceIte,reduceCtorEq]))|refine Fits.of ?_ ?_|refine aL ?_ fun hp=>?_|refine And.intro ?_ ?_|clear hK K|clear hL L)
 all_goals try omega
 simp only [go_sem,qa,qb,qc,qd,qe,qf,qg,qh,qi,qj,qk,ql,qm,qn,qo,qp,qq,qr,qs,reduceIte,reduceCtorEq,List.take_succ_cons,List.take_zero,List.length_cons,List.length_nil,List.drop_succ_cons,List.drop_zero]
 skip
 refine AWpI.send (evStep 1 (b.past.length:Nat) 6) rfl rfl rfl rfl rfl rfl rfl (by simp) ?_
 refine AWpI.done (by decide) ?_
 simp only [go_sem,qa,qb,qc,qd,qe,qf,qg,qh,qi,qj,qk,ql,qm,qn,qo,qp,qq,qr,qs,reduceIte,reduceCtorEq]
 repeat' (first|refine hR 9 5 _ _ _ (dst_of hnt rfl) ?_|refine vS fun K hK=>?_|refine hK _ ?_;clear hK K|refine hX ?_;clear hX hY X Y|refine vB ?_|refine hL _ _ ?_|((first|refine vR tok (by rw [hnt];rfl) ?_|refine vC fun X Y hX hY=>?_|(refine vK ?_))<;>(try simp only [go_sem,qa,qb,qc,qd,qe,qf,qg,qh,qi,qj,qk,ql,qm,qn,qo,qp,qq,qr,qs,reduceIte,reduceCtorEq]))|refine Fits.of ?_ ?_|refine aL ?_ fun hp=>?_|refine And.intro ?_ ?_|clear hK K|clear hL L)
 all_goals try omega
 simp only [go_sem,qa,qb,qc,qd,qe,qf,qg,qh,qi,qj,qk,ql,qm,qn,qo,qp,qq,qr,qs,reduceIte,reduceCtorEq,List.take_succ_cons,List.take_zero,List.length_cons,List.length_nil,List.drop_succ_cons,List.drop_zero]
 skip
 refine AWpI.send (evStep 1 (b.past.length:Nat) 7) rfl rfl rfl rfl rfl rfl rfl (by simp) ?_
 refine AWpI.done (by decide) ?_
 simp only [go_sem,qa,qb,qc,qd,qe,qf,qg,qh,qi,qj,qk,ql,qm,qn,qo,qp,qq,qr,qs,reduceIte,reduceCtorEq]
 repeat' (first|refine vS fun K hK=>?_|refine hK _ ?_;clear hK K|refine hY ?_;clear hX hY X Y|refine vB ?_|refine hL _ _ ?_|((first|refine vR tok (by rw [hnt];rfl) ?_|refine vC fun X Y hX hY=>?_|(refine vE ?_))<;>(try simp only [go_sem,qa,qb,qc,qd,qe,qf,qg,qh,qi,qj,qk,ql,qm,qn,qo,qp,qq,qr,qs,reduceIte,reduceCtorEq]))|refine Fits.of ?_ ?_|refine And.intro ?_ ?_|clear hK K|clear hL L)
 all_goals try omega
 -- the packets
 refine AWp.loop (fun i:Nat=>⟨[(1,.o (I 1)),(6,.o (.c (.ptr 2 0 0 0))),(7,.o (I (b.past.length:Nat))),(9,.o (.c (.ch 18))),(53,.o (.c (.sl 12 7 0 b.state.sent.length))),(54,.o (I (b.state.sent.length:Nat))),(55,.o (I i))],(18,.raw (chE (b.state.sent.length+22) (evBase 1 (b.past.length:Nat)++(b.state.sent.take i).map (evGet 1 (b.past.length:Nat))) false (6+i) 0)) ::pairH ⟨a,b⟩ 3 10,19⟩) (fun i=>i≤b.state.sent.length) (fun i=>b.state.sent.length - i) 0 (Nat.zero_le _) ?_ ?_
 · refine vL hk0 [] ?_;simp only [go_sem,qa,qb,qc,qd,qe,qf,qg,qh,qi,qj,qk,ql,qm,qn,qo,qp,qq,qr,qs,reduceIte,reduceCtorEq,List.take_zero,List.map_nil,List.append_nil,evBase]
   all_goals first|rfl|omega|simp
 intro i hi
 by_cases hlt:i < b.state.sent.length
 · have e1:(b.state.sent.take (i+1)).map (evGet 1 (b.past.length:Nat))=(b.state.sent.take i).map (evGet 1 (b.past.length:Nat))++[evGet 1 (b.past.length:Nat) (b.state.sent.getD i default)]:=by
     have t:b.state.sent.take (i+1)=b.state.sent.take i++[b.state.sent.getD i default]:=by rw [List.take_succ];simp [List.getD,hlt]
     rw [t,List.map_append];rfl
   have e2:evBase 1 (b.past.length:Nat)++((b.state.sent.take i).map (evGet 1 (b.past.length:Nat))++[evGet 1 (b.past.length:Nat) (b.state.sent.getD i default)])=evBase 1 (b.past.length:Nat)++(b.state.sent.take i).map (evGet 1 (b.past.length:Nat))++[evGet 1 (b.past.length:Nat) (b.state.sent.getD i default)]:=by simp
   have e3:(evBase 1 (b.past.length:Nat)++(b.state.sent.take i).map (evGet 1 (b.past.length:Nat))).length < b.state.sent.length+22:=by simp [evBase];omega
   repeat' (first|refine hR 14 5 _ _ _ (dst_of hnt rfl) ?_|refine vS fun K hK=>?_|refine hK _ ?_;clear hK K|refine hX ?_;clear hX hY X Y|refine vB ?_|((first|refine vR tok (by rw [hnt];rfl) ?_|refine vC fun X Y hX hY=>?_|refine vK ?_|(apply gC<;>intro hq<;>(try simp only [nT,nF,n1,n0] at hq)<;>(have hb:=hq)<;>(try simp only [dT,dF,eT,eF] at hb)<;>first|(exfalso;omega)|((try simp only [hq]);clear hq)))<;>(try simp only [go_sem,qa,qb,qc,qd,qe,qf,qg,qh,qi,qj,qk,ql,qm,qn,qo,qp,qq,qr,qs,reduceIte,reduceCtorEq]))|refine aL ?_ fun hp=>?_|refine aE ?_ fun hp=>?_|refine aC ?_ fun hp=>?_|clear hK K)
   all_goals try (first|omega|(simp only [dA,dB,dC];omega))
   simp only [go_sem,qa,qb,qc,qd,qe,qf,qg,qh,qi,qj,qk,ql,qm,qn,qo,qp,qq,qr,qs,reduceIte,reduceCtorEq,List.take_succ_cons,List.take_zero,List.length_cons,List.length_nil,List.drop_succ_cons,List.drop_zero]
   skip
   refine AWpI.send (evGet 1 (b.past.length:Nat) (b.state.sent.getD i default)) rfl rfl rfl rfl rfl rfl rfl e3 ?_
   refine AWpI.done (by decide) ?_
   simp only [go_sem,qa,qb,qc,qd,qe,qf,qg,qh,qi,qj,qk,ql,qm,qn,qo,qp,qq,qr,qs,reduceIte,reduceCtorEq]
   repeat' (first|refine hK _ ?_;clear hK K|((first|refine vR tok (by rw [hnt];rfl) ?_|(refine vL hk0 [] ?_))<;>(try simp only [go_sem,qa,qb,qc,qd,qe,qf,qg,qh,qi,qj,qk,ql,qm,qn,qo,qp,qq,qr,qs,reduceIte,reduceCtorEq,e1,e2,Nat.add_assoc]))|refine ⟨i+1,?_,?_,?_⟩|refine Fits.of ?_ ?_|refine And.intro ?_ ?_|clear hK K)
   all_goals try (first|omega|(simp only [dA,dB,dC];omega))
 have e6:i=b.state.sent.length:=by omega
 subst e6
 rw [List.take_length]
 repeat' (first|refine vS fun K hK=>?_|refine hK _ ?_;clear hK K|refine hY ?_;clear hX hY X Y|refine vB ?_|((first|refine vR tok (by rw [hnt];rfl) ?_|refine vC fun X Y hX hY=>?_|refine vE ?_|(apply gC<;>intro hq<;>(try simp only [nT,nF,n1,n0] at hq)<;>(have hb:=hq)<;>(try simp only [dT,dF,eT,eF] at hb)<;>first|(exfalso;omega)|((try simp only [hq]);clear hq)))<;>(try simp only [go_sem,qa,qb,qc,qd,qe,qf,qg,qh,qi,qj,qk,ql,qm,qn,qo,qp,qq,qr,qs,reduceIte,reduceCtorEq]))|clear hK K)
 all_goals try omega
 -- what became of them
 refine AWp.loop (fun i:Nat=>⟨[(1,.o (I 1)),(6,.o (.c (.ptr 2 0 0 0))),(7,.o (I (b.past.length:Nat))),(9,.o (.c (.ch 18))),(14,.o (I ((i:Int)+1)))],(18,.raw (chE (b.state.sent.length+22) (evBase 1 (b.past.length:Nat)++b.state.sent.map (evGet 1 (b.past.length:Nat))++evPairs 1 (b.past.length:Nat) i) false (6+b.state.sent.length+2 * i) 0)) ::pairH ⟨a,b⟩ 3 10,19⟩) (fun i=>i≤8) (fun i=>8 - i) 0 (Nat.zero_le _) ?_ ?_
 · refine vL hk0 [] ?_;simp only [go_sem,qa,qb,qc,qd,qe,qf,qg,qh,qi,qj,qk,ql,qm,qn,qo,qp,qq,qr,qs,reduceIte,reduceCtorEq,evPairs_zero,List.append_nil,Nat.mul_zero,Nat.add_zero]
   all_goals first|rfl|omega|simp
 clear hi hlt
 intro i hi
 have e3:=evPair_len 1 (b.past.length:Nat) i
 by_cases hlt:i < 8
 · have e1:=evPair_succ 1 (b.past.length:Nat) i
   have e4:(evBase 1 (b.past.length:Nat)++b.state.sent.map (evGet 1 (b.past.length:Nat))++evPairs 1 (b.past.length:Nat) i).length < b.state.sent.length+22:=by
     simp only [List.length_append,List.length_map,e3];simp [evBase];omega
   have e5:((evBase 1 (b.past.length:Nat)++b.state.sent.map (evGet 1 (b.past.length:Nat))++evPairs 1 (b.past.length:Nat) i)++[evTell 1 (b.past.length:Nat) ((i:Int)+1)]).length < b.state.sent.length+22:=by
     simp only [List.length_append,List.length_map,e3];simp [evBase];omega
   have e2:evBase 1 (b.past.length:Nat)++b.state.sent.map (evGet 1 (b.past.length:Nat))++(evPairs 1 (b.past.length:Nat) i++[evTell 1 (b.past.length:Nat) ((i:Int)+1)]++[evLate 1 (b.past.length:Nat) ((i:Int)+1)])=evBase 1 (b.past.length:Nat)++b.state.sent.map (evGet 1 (b.past.length:Nat))++evPairs 1 (b.past.length:Nat) i++[evTell 1 (b.past.length:Nat) ((i:Int)+1)]++[evLate 1 (b.past.length:Nat) ((i:Int)+1)]:=by simp
   have e7:6+b.state.sent.length+2 * (i+1)=6+b.state.sent.length+2 * i+1+1:=by omega
   repeat' (first|refine hR 19 5 _ _ _ (dst_of hnt rfl) ?_|refine vS fun K hK=>?_|refine hK _ ?_;clear hK K|refine hX ?_;clear hX hY X Y|refine vB ?_|((first|refine vR tok (by rw [hnt];rfl) ?_|refine vC fun X Y hX hY=>?_|refine vK ?_|(apply gC<;>intro hq<;>(try simp only [nT,nF,n1,n0] at hq)<;>(have hb:=hq)<;>(try simp only [dT,dF,eT,eF] at hb)<;>first|(exfalso;omega)|((try simp only [hq]);clear hq)))<;>(try simp only [go_sem,qa,qb,qc,qd,qe,qf,qg,qh,qi,qj,qk,ql,qm,qn,qo,qp,qq,qr,qs,reduceIte,reduceCtorEq])))
   all_goals try (first|omega|(simp only [dA,dB,dC];omega))
   simp only [go_sem,qa,qb,qc,qd,qe,qf,qg,qh,qi,qj,qk,ql,qm,qn,qo,qp,qq,qr,qs,reduceIte,reduceCtorEq,List.take_succ_cons,List.take_zero,List.length_cons,List.length_nil,List.drop_succ_cons,List.drop_zero]
   skip
   refine AWpI.send (evTell 1 (b.past.length:Nat) ((i:Int)+1)) rfl rfl rfl rfl rfl rfl rfl e4 ?_
   refine AWpI.done (by decide) ?_
   simp only [go_sem,qa,qb,qc,qd,qe,qf,qg,qh,qi,qj,qk,ql,qm,qn,qo,qp,qq,qr,qs,reduceIte,reduceCtorEq]
   repeat' (first|refine hR 20 5 _ _ _ (dst_of hnt rfl) ?_|refine hK _ ?_;clear hK K)
   all_goals try (first|omega|(simp only [dA,dB,dC];omega))
   simp only [go_sem,qa,qb,qc,qd,qe,qf,qg,qh,qi,qj,qk,ql,qm,qn,qo,qp,qq,qr,qs,reduceIte,reduceCtorEq,List.take_succ_cons,List.take_zero,List.length_cons,List.length_nil,List.drop_succ_cons,List.drop_zero]
   skip
   refine AWpI.send (evLate 1 (b.past.length:Nat) ((i:Int)+1)) rfl rfl rfl rfl rfl rfl rfl e5 ?_
   refine AWpI.done (by decide) ?_
   simp only [go_sem,qa,qb,qc,qd,qe,qf,qg,qh,qi,qj,qk,ql,qm,qn,qo,qp,qq,qr,qs,reduceIte,reduceCtorEq]
   repeat' (first|refine hK _ ?_;clear hK K|((first|refine vR tok (by rw [hnt];rfl) ?_|(refine vL hk0 [] ?_))<;>(try simp only [go_sem,qa,qb,qc,qd,qe,qf,qg,qh,qi,qj,qk,ql,qm,qn,qo,qp,qq,qr,qs,reduceIte,reduceCtorEq,e1,e2,e7]))|refine ⟨i+1,?_,?_,?_⟩|refine Fits.of ?_ ?_|refine And.intro ?_ ?_|clear hK K)
   all_goals try (first|omega|(simp only [dA,dB,dC];omega))
   all_goals try (exact chE_cnt (by omega))
 have e6:i=8:=by omega
 subst e6
 repeat' (first|refine hR 21 1 _ _ _ (dst_of hnt rfl) ?_|refine vS fun K hK=>?_|refine hK _ ?_;clear hK K|refine hY ?_;clear hX hY X Y|((first|refine vR tok (by rw [hnt];rfl) ?_|refine vC fun X Y hX hY=>?_|(refine vE ?_))<;>(try simp only [go_sem,qa,qb,qc,qd,qe,qf,qg,qh,qi,qj,qk,ql,qm,qn,qo,qp,qq,qr,qs,reduceIte,reduceCtorEq]))|clear hK K)
 all_goals try omega
 simp only [go_sem,qa,qb,qc,qd,qe,qf,qg,qh,qi,qj,qk,ql,qm,qn,qo,qp,qq,qr,qs,reduceIte,reduceCtorEq,List.take_succ_cons,List.take_zero,List.length_cons,List.length_nil,List.drop_succ_cons,List.drop_zero]
 skip
 refine AWpI.close (dst_of hnt rfl) rfl rfl rfl rfl rfl ?_
 refine AWpI.done (by decide) ?_
 have e8:6+b.state.sent.length+16=b.state.sent.length+22:=by omega
 simp only [go_sem,qa,qb,qc,qd,qe,qf,qg,qh,qi,qj,qk,ql,qm,qn,qo,qp,qq,qr,qs,reduceIte,reduceCtorEq,e8]
 repeat' (first|refine vS fun K hK=>?_|refine hK _ ?_;clear hK K|((first|refine vR tok (by rw [hnt];rfl) ?_|refine vT ?_|(refine vF [] ?_))<;>(try simp only [go_sem,qa,qb,qc,qd,qe,qf,qg,qh,qi,qj,qk,ql,qm,qn,qo,qp,qq,qr,qs,reduceIte,reduceCtorEq,e8])))
 all_goals first|omega|(exact chE_cnt (by omega))
theorem relayed_2 (a b:Chain) (hok:wOk [a,b]=true):Call Tryz.prog 61 [.c (.ptr 0 0 0 0),I 2] (pairH ⟨a,b⟩ 3 10) 17 (.o (.c (.ch 17))) ((17,.raw (chE (a.state.sent.length+22) (carryE a 2) true (a.state.sent.length+22) 0)) ::pairH ⟨a,b⟩ 3 10) 18:=by
 have hab:=wOk_iff.1 hok
 obtain ⟨_,_,hst,hpl,_,_⟩:=chain_ok hab.1
 obtain ⟨_,_,hsl,_⟩:=state_ok hst
 have cE:=ends_2 2 rfl
 rw [← carry_list]
 refine vO tok Tryz.func61 rfl rfl Tryz.ntmps61 Tryz.results61 rfl (by decide) (fun cx hnt hk0=>?_)
 have hR:=fun (i n:Nat) (ops:List Oper) (Q:Exit→St→Prop) (s:St) (hd:dstOk cx.nt ops=true) h=>AWp.regN (P:=Tryz.prog) (c:=cx) (Q:=Q) (s:=s) (ops:=ops) (id:=i) n tok hd h

 repeat' (first|refine hR 4 8 _ _ _ (dst_of hnt rfl) ?_|refine vS fun K hK=>?_|refine hK _ ?_;clear hK K|((first|refine vR tok (by rw [hnt];rfl) ?_|(refine runS_c [0,1,2] (cE) rfl ?_ ?_ ?_))<;>(try simp only [go_sem,qa,qb,qc,qd,qe,qf,qg,qh,qi,qj,qk,ql,qm,qn,qo,qp,qq,qr,qs,reduceIte,reduceCtorEq])))
 all_goals try omega
 simp only [go_sem,qa,qb,qc,qd,qe,qf,qg,qh,qi,qj,qk,ql,qm,qn,qo,qp,qq,qr,qs,reduceIte,reduceCtorEq,List.take_succ_cons,List.take_zero,List.length_cons,List.length_nil,List.drop_succ_cons,List.drop_zero]
 repeat' (first|refine Fits.of ?_ ?_|refine And.intro ?_ ?_|clear hK K)
 all_goals try omega
 have em:((6:Int)+(a.state.sent.length:Nat)+16).toNat=a.state.sent.length+22:=by omega
 refine AWpI.mkch (dst_of hnt rfl) rfl rfl rfl rfl Tryz.underlying136 ev_bytes (by omega) (by omega) ?_
 refine AWpI.rest tok (dst_of hnt rfl) ?_
 simp only [go_sem,qa,qb,qc,qd,qe,qf,qg,qh,qi,qj,qk,ql,qm,qn,qo,qp,qq,qr,qs,reduceIte,reduceCtorEq,List.take_succ_cons,List.take_zero,List.length_cons,List.length_nil,List.drop_succ_cons,List.drop_zero,em]
 repeat' (first|refine hR 5 4 _ _ _ (dst_of hnt rfl) ?_|refine vS fun K hK=>?_|refine hK _ ?_;clear hK K)
 simp only [go_sem,qa,qb,qc,qd,qe,qf,qg,qh,qi,qj,qk,ql,qm,qn,qo,qp,qq,qr,qs,reduceIte,reduceCtorEq,List.take_succ_cons,List.take_zero,List.length_cons,List.length_nil,List.drop_succ_cons,List.drop_zero]
 skip
 refine AWpI.send (evKnow 2 (a.past.length:Nat)) rfl rfl rfl rfl rfl rfl rfl (by simp) ?_
 refine AWpI.done (by decide) ?_
 simp only [go_sem,qa,qb,qc,qd,qe,qf,qg,qh,qi,qj,qk,ql,qm,qn,qo,qp,qq,qr,qs,reduceIte,reduceCtorEq]
 repeat' (first|refine vS fun K hK=>?_|refine hK _ ?_;clear hK K|refine vB ?_|((refine vR tok (by rw [hnt];rfl) ?_)<;>(try simp only [go_sem,qa,qb,qc,qd,qe,qf,qg,qh,qi,qj,qk,ql,qm,qn,qo,qp,qq,qr,qs,reduceIte,reduceCtorEq])))
 refine AWp.loopN 6 fun L hL=>?_
 repeat' (first|refine hR 9 5 _ _ _ (dst_of hnt rfl) ?_|refine vS fun K hK=>?_|refine hK _ ?_;clear hK K|refine hX ?_;clear hX hY X Y|refine vB ?_|refine hL _ _ ?_|((first|refine vR tok (by rw [hnt];rfl) ?_|refine vC fun X Y hX hY=>?_|(refine vK ?_))<;>(try simp only [go_sem,qa,qb,qc,qd,qe,qf,qg,qh,qi,qj,qk,ql,qm,qn,qo,qp,qq,qr,qs,reduceIte,reduceCtorEq]))|refine aL ?_ fun hp=>?_|clear hK K|clear hL L)
 all_goals try omega
 simp only [go_sem,qa,qb,qc,qd,qe,qf,qg,qh,qi,qj,qk,ql,qm,qn,qo,qp,qq,qr,qs,reduceIte,reduceCtorEq,List.take_succ_cons,List.take_zero,List.length_cons,List.length_nil,List.drop_succ_cons,List.drop_zero]
 skip
 refine AWpI.send (evStep 2 (a.past.length:Nat) 2) rfl rfl rfl rfl rfl rfl rfl (by simp) ?_
 refine AWpI.done (by decide) ?_
 simp only [go_sem,qa,qb,qc,qd,qe,qf,qg,qh,qi,qj,qk,ql,qm,qn,qo,qp,qq,qr,qs,reduceIte,reduceCtorEq]
 repeat' (first|refine hR 9 5 _ _ _ (dst_of hnt rfl) ?_|refine vS fun K hK=>?_|refine hK _ ?_;clear hK K|refine hX ?_;clear hX hY X Y|refine vB ?_|refine hL _ _ ?_|((first|refine vR tok (by rw [hnt];rfl) ?_|refine vC fun X Y hX hY=>?_|(refine vK ?_))<;>(try simp only [go_sem,qa,qb,qc,qd,qe,qf,qg,qh,qi,qj,qk,ql,qm,qn,qo,qp,qq,qr,qs,reduceIte,reduceCtorEq]))|refine Fits.of ?_ ?_|refine aL ?_ fun hp=>?_|refine And.intro ?_ ?_|clear hK K|clear hL L)
 all_goals try omega
 simp only [go_sem,qa,qb,qc,qd,qe,qf,qg,qh,qi,qj,qk,ql,qm,qn,qo,qp,qq,qr,qs,reduceIte,reduceCtorEq,List.take_succ_cons,List.take_zero,List.length_cons,List.length_nil,List.drop_succ_cons,List.drop_zero]
 skip
 refine AWpI.send (evStep 2 (a.past.length:Nat) 3) rfl rfl rfl rfl rfl rfl rfl (by simp) ?_
 refine AWpI.done (by decide) ?_
 simp only [go_sem,qa,qb,qc,qd,qe,qf,qg,qh,qi,qj,qk,ql,qm,qn,qo,qp,qq,qr,qs,reduceIte,reduceCtorEq]
 repeat' (first|refine hR 9 5 _ _ _ (dst_of hnt rfl) ?_|refine vS fun K hK=>?_|refine hK _ ?_;clear hK K|refine hX ?_;clear hX hY X Y|refine vB ?_|refine hL _ _ ?_|((first|refine vR tok (by rw [hnt];rfl) ?_|refine vC fun X Y hX hY=>?_|(refine vK ?_))<;>(try simp only [go_sem,qa,qb,qc,qd,qe,qf,qg,qh,qi,qj,qk,ql,qm,qn,qo,qp,qq,qr,qs,reduceIte,reduceCtorEq]))|refine Fits.of ?_ ?_|refine aL ?_ fun hp=>?_|refine And.intro ?_ ?_|clear hK K|clear hL L)
 all_goals try omega
 simp only [go_sem,qa,qb,qc,qd,qe,qf,qg,qh,qi,qj,qk,ql,qm,qn,qo,qp,qq,qr,qs,reduceIte,reduceCtorEq,List.take_succ_cons,List.take_zero,List.length_cons,List.length_nil,List.drop_succ_cons,List.drop_zero]
 skip
 refine AWpI.send (evStep 2 (a.past.length:Nat) 4) rfl rfl rfl rfl rfl rfl rfl (by simp) ?_
 refine AWpI.done (by decide) ?_
 simp only [go_sem,qa,qb,qc,qd,qe,qf,qg,qh,qi,qj,qk,ql,qm,qn,qo,qp,qq,qr,qs,reduceIte,reduceCtorEq]
 repeat' (first|refine hR 9 5 _ _ _ (dst_of hnt rfl) ?_|refine vS fun K hK=>?_|refine hK _ ?_;clear hK K|refine hX ?_;clear hX hY X Y|refine vB ?_|refine hL _ _ ?_|((first|refine vR tok (by rw [hnt];rfl) ?_|refine vC fun X Y hX hY=>?_|(refine vK ?_))<;>(try simp only [go_sem,qa,qb,qc,qd,qe,qf,qg,qh,qi,qj,qk,ql,qm,qn,qo,qp,qq,qr,qs,reduceIte,reduceCtorEq]))|refine Fits.of ?_ ?_|refine aL ?_ fun hp=>?_|refine And.intro ?_ ?_|clear hK K|clear hL L)
 all_goals try omega
 simp only [go_sem,qa,qb,qc,qd,qe,qf,qg,qh,qi,qj,qk,ql,qm,qn,qo,qp,qq,qr,qs,reduceIte,reduceCtorEq,List.take_succ_cons,List.take_zero,List.length_cons,List.length_nil,List.drop_succ_cons,List.drop_zero]
 skip
 refine AWpI.send (evStep 2 (a.past.length:Nat) 6) rfl rfl rfl rfl rfl rfl rfl (by simp) ?_
 refine AWpI.done (by decide) ?_
 simp only [go_sem,qa,qb,qc,qd,qe,qf,qg,qh,qi,qj,qk,ql,qm,qn,qo,qp,qq,qr,qs,reduceIte,reduceCtorEq]
 repeat' (first|refine hR 9 5 _ _ _ (dst_of hnt rfl) ?_|refine vS fun K hK=>?_|refine hK _ ?_;clear hK K|refine hX ?_;clear hX hY X Y|refine vB ?_|refine hL _ _ ?_|((first|refine vR tok (by rw [hnt];rfl) ?_|refine vC fun X Y hX hY=>?_|(refine vK ?_))<;>(try simp only [go_sem,qa,qb,qc,qd,qe,qf,qg,qh,qi,qj,qk,ql,qm,qn,qo,qp,qq,qr,qs,reduceIte,reduceCtorEq]))|refine Fits.of ?_ ?_|refine aL ?_ fun hp=>?_|refine And.intro ?_ ?_|clear hK K|clear hL L)
 all_goals try omega
 simp only [go_sem,qa,qb,qc,qd,qe,qf,qg,qh,qi,qj,qk,ql,qm,qn,qo,qp,qq,qr,qs,reduceIte,reduceCtorEq,List.take_succ_cons,List.take_zero,List.length_cons,List.length_nil,List.drop_succ_cons,List.drop_zero]
 skip
 refine AWpI.send (evStep 2 (a.past.length:Nat) 7) rfl rfl rfl rfl rfl rfl rfl (by simp) ?_
 refine AWpI.done (by decide) ?_
 simp only [go_sem,qa,qb,qc,qd,qe,qf,qg,qh,qi,qj,qk,ql,qm,qn,qo,qp,qq,qr,qs,reduceIte,reduceCtorEq]
 repeat' (first|refine vS fun K hK=>?_|refine hK _ ?_;clear hK K|refine hY ?_;clear hX hY X Y|refine vB ?_|refine hL _ _ ?_|((first|refine vR tok (by rw [hnt];rfl) ?_|refine vC fun X Y hX hY=>?_|(refine vE ?_))<;>(try simp only [go_sem,qa,qb,qc,qd,qe,qf,qg,qh,qi,qj,qk,ql,qm,qn,qo,qp,qq,qr,qs,reduceIte,reduceCtorEq]))|refine Fits.of ?_ ?_|refine And.intro ?_ ?_|clear hK K|clear hL L)
 all_goals try omega
 -- the packets
 refine AWp.loop (fun i:Nat=>⟨[(1,.o (I 2)),(6,.o (.c (.ptr 1 0 0 0))),(7,.o (I (a.past.length:Nat))),(9,.o (.c (.ch 18))),(53,.o (.c (.sl 5 7 0 a.state.sent.length))),(54,.o (I (a.state.sent.length:Nat))),(55,.o (I i))],(18,.raw (chE (a.state.sent.length+22) (evBase 2 (a.past.length:Nat)++(a.state.sent.take i).map (evGet 2 (a.past.length:Nat))) false (6+i) 0)) ::pairH ⟨a,b⟩ 3 10,19⟩) (fun i=>i≤a.state.sent.length) (fun i=>a.state.sent.length - i) 0 (Nat.zero_le _) ?_ ?_
 · refine vL hk0 [] ?_;simp only [go_sem,qa,qb,qc,qd,qe,qf,qg,qh,qi,qj,qk,ql,qm,qn,qo,qp,qq,qr,qs,reduceIte,reduceCtorEq,List.take_zero,List.map_nil,List.append_nil,evBase]
   all_goals first|rfl|omega|simp
 intro i hi
 by_cases hlt:i < a.state.sent.length
 · have e1:(a.state.sent.take (i+1)).map (evGet 2 (a.past.length:Nat))=(a.state.sent.take i).map (evGet 2 (a.past.length:Nat))++[evGet 2 (a.past.length:Nat) (a.state.sent.getD i default)]:=by
     have t:a.state.sent.take (i+1)=a.state.sent.take i++[a.state.sent.getD i default]:=by rw [List.take_succ];simp [List.getD,hlt]
     rw [t,List.map_append];rfl
   have e2:evBase 2 (a.past.length:Nat)++((a.state.sent.take i).map (evGet 2 (a.past.length:Nat))++[evGet 2 (a.past.length:Nat) (a.state.sent.getD i default)])=evBase 2 (a.past.length:Nat)++(a.state.sent.take i).map (evGet 2 (a.past.length:Nat))++[evGet 2 (a.past.length:Nat) (a.state.sent.getD i default)]:=by simp
   have e3:(evBase 2 (a.past.length:Nat)++(a.state.sent.take i).map (evGet 2 (a.past.length:Nat))).length < a.state.sent.length+22:=by simp [evBase];omega
   repeat' (first|refine hR 14 5 _ _ _ (dst_of hnt rfl) ?_|refine vS fun K hK=>?_|refine hK _ ?_;clear hK K|refine hX ?_;clear hX hY X Y|refine vB ?_|((first|refine vR tok (by rw [hnt];rfl) ?_|refine vC fun X Y hX hY=>?_|refine vK ?_|(apply gC<;>intro hq<;>(try simp only [nT,nF,n1,n0] at hq)<;>(have hb:=hq)<;>(try simp only [dT,dF,eT,eF] at hb)<;>first|(exfalso;omega)|((try simp only [hq]);clear hq)))<;>(try simp only [go_sem,qa,qb,qc,qd,qe,qf,qg,qh,qi,qj,qk,ql,qm,qn,qo,qp,qq,qr,qs,reduceIte,reduceCtorEq]))|refine aL ?_ fun hp=>?_|refine aE ?_ fun hp=>?_|refine aC ?_ fun hp=>?_|clear hK K)
   all_goals try (first|omega|(simp only [dA,dB,dC];omega))
   simp only [go_sem,qa,qb,qc,qd,qe,qf,qg,qh,qi,qj,qk,ql,qm,qn,qo,qp,qq,qr,qs,reduceIte,reduceCtorEq,List.take_succ_cons,List.take_zero,List.length_cons,List.length_nil,List.drop_succ_cons,List.drop_zero]
   skip
   refine AWpI.send (evGet 2 (a.past.length:Nat) (a.state.sent.getD i default)) rfl rfl rfl rfl rfl rfl rfl e3 ?_
   refine AWpI.done (by decide) ?_
   simp only [go_sem,qa,qb,qc,qd,qe,qf,qg,qh,qi,qj,qk,ql,qm,qn,qo,qp,qq,qr,qs,reduceIte,reduceCtorEq]
   repeat' (first|refine hK _ ?_;clear hK K|((first|refine vR tok (by rw [hnt];rfl) ?_|(refine vL hk0 [] ?_))<;>(try simp only [go_sem,qa,qb,qc,qd,qe,qf,qg,qh,qi,qj,qk,ql,qm,qn,qo,qp,qq,qr,qs,reduceIte,reduceCtorEq,e1,e2,Nat.add_assoc]))|refine ⟨i+1,?_,?_,?_⟩|refine Fits.of ?_ ?_|refine And.intro ?_ ?_|clear hK K)
   all_goals try (first|omega|(simp only [dA,dB,dC];omega))
 have e6:i=a.state.sent.length:=by omega
 subst e6
 rw [List.take_length]
 repeat' (first|refine vS fun K hK=>?_|refine hK _ ?_;clear hK K|refine hY ?_;clear hX hY X Y|refine vB ?_|((first|refine vR tok (by rw [hnt];rfl) ?_|refine vC fun X Y hX hY=>?_|refine vE ?_|(apply gC<;>intro hq<;>(try simp only [nT,nF,n1,n0] at hq)<;>(have hb:=hq)<;>(try simp only [dT,dF,eT,eF] at hb)<;>first|(exfalso;omega)|((try simp only [hq]);clear hq)))<;>(try simp only [go_sem,qa,qb,qc,qd,qe,qf,qg,qh,qi,qj,qk,ql,qm,qn,qo,qp,qq,qr,qs,reduceIte,reduceCtorEq]))|clear hK K)
 all_goals try omega
 -- what became of them
 refine AWp.loop (fun i:Nat=>⟨[(1,.o (I 2)),(6,.o (.c (.ptr 1 0 0 0))),(7,.o (I (a.past.length:Nat))),(9,.o (.c (.ch 18))),(14,.o (I ((i:Int)+1)))],(18,.raw (chE (a.state.sent.length+22) (evBase 2 (a.past.length:Nat)++a.state.sent.map (evGet 2 (a.past.length:Nat))++evPairs 2 (a.past.length:Nat) i) false (6+a.state.sent.length+2 * i) 0)) ::pairH ⟨a,b⟩ 3 10,19⟩) (fun i=>i≤8) (fun i=>8 - i) 0 (Nat.zero_le _) ?_ ?_
 · refine vL hk0 [] ?_;simp only [go_sem,qa,qb,qc,qd,qe,qf,qg,qh,qi,qj,qk,ql,qm,qn,qo,qp,qq,qr,qs,reduceIte,reduceCtorEq,evPairs_zero,List.append_nil,Nat.mul_zero,Nat.add_zero]
   all_goals first|rfl|omega|simp
 clear hi hlt
 intro i hi
 have e3:=evPair_len 2 (a.past.length:Nat) i
 by_cases hlt:i < 8
 · have e1:=evPair_succ 2 (a.past.length:Nat) i
   have e4:(evBase 2 (a.past.length:Nat)++a.state.sent.map (evGet 2 (a.past.length:Nat))++evPairs 2 (a.past.length:Nat) i).length < a.state.sent.length+22:=by
     simp only [List.length_append,List.length_map,e3];simp [evBase];omega
   have e5:((evBase 2 (a.past.length:Nat)++a.state.sent.map (evGet 2 (a.past.length:Nat))++evPairs 2 (a.past.length:Nat) i)++[evTell 2 (a.past.length:Nat) ((i:Int)+1)]).length < a.state.sent.length+22:=by
     simp only [List.length_append,List.length_map,e3];simp [evBase];omega
   have e2:evBase 2 (a.past.length:Nat)++a.state.sent.map (evGet 2 (a.past.length:Nat))++(evPairs 2 (a.past.length:Nat) i++[evTell 2 (a.past.length:Nat) ((i:Int)+1)]++[evLate 2 (a.past.length:Nat) ((i:Int)+1)])=evBase 2 (a.past.length:Nat)++a.state.sent.map (evGet 2 (a.past.length:Nat))++evPairs 2 (a.past.length:Nat) i++[evTell 2 (a.past.length:Nat) ((i:Int)+1)]++[evLate 2 (a.past.length:Nat) ((i:Int)+1)]:=by simp
   have e7:6+a.state.sent.length+2 * (i+1)=6+a.state.sent.length+2 * i+1+1:=by omega
   repeat' (first|refine hR 19 5 _ _ _ (dst_of hnt rfl) ?_|refine vS fun K hK=>?_|refine hK _ ?_;clear hK K|refine hX ?_;clear hX hY X Y|refine vB ?_|((first|refine vR tok (by rw [hnt];rfl) ?_|refine vC fun X Y hX hY=>?_|refine vK ?_|(apply gC<;>intro hq<;>(try simp only [nT,nF,n1,n0] at hq)<;>(have hb:=hq)<;>(try simp only [dT,dF,eT,eF] at hb)<;>first|(exfalso;omega)|((try simp only [hq]);clear hq)))<;>(try simp only [go_sem,qa,qb,qc,qd,qe,qf,qg,qh,qi,qj,qk,ql,qm,qn,qo,qp,qq,qr,qs,reduceIte,reduceCtorEq])))
   all_goals try (first|omega|(simp only [dA,dB,dC];omega))
   simp only [go_sem,qa,qb,qc,qd,qe,qf,qg,qh,qi,qj,qk,ql,qm,qn,qo,qp,qq,qr,qs,reduceIte,reduceCtorEq,List.take_succ_cons,List.take_zero,List.length_cons,List.length_nil,List.drop_succ_cons,List.drop_zero]
   skip
   refine AWpI.send (evTell 2 (a.past.length:Nat) ((i:Int)+1)) rfl rfl rfl rfl rfl rfl rfl e4 ?_
   refine AWpI.done (by decide) ?_
   simp only [go_sem,qa,qb,qc,qd,qe,qf,qg,qh,qi,qj,qk,ql,qm,qn,qo,qp,qq,qr,qs,reduceIte,reduceCtorEq]
   repeat' (first|refine hR 20 5 _ _ _ (dst_of hnt rfl) ?_|refine hK _ ?_;clear hK K)
   all_goals try (first|omega|(simp only [dA,dB,dC];omega))
   simp only [go_sem,qa,qb,qc,qd,qe,qf,qg,qh,qi,qj,qk,ql,qm,qn,qo,qp,qq,qr,qs,reduceIte,reduceCtorEq,List.take_succ_cons,List.take_zero,List.length_cons,List.length_nil,List.drop_succ_cons,List.drop_zero]
   skip
   refine AWpI.send (evLate 2 (a.past.length:Nat) ((i:Int)+1)) rfl rfl rfl rfl rfl rfl rfl e5 ?_
   refine AWpI.done (by decide) ?_
   simp only [go_sem,qa,qb,qc,qd,qe,qf,qg,qh,qi,qj,qk,ql,qm,qn,qo,qp,qq,qr,qs,reduceIte,reduceCtorEq]
   repeat' (first|refine hK _ ?_;clear hK K|((first|refine vR tok (by rw [hnt];rfl) ?_|(refine vL hk0 [] ?_))<;>(try simp only [go_sem,qa,qb,qc,qd,qe,qf,qg,qh,qi,qj,qk,ql,qm,qn,qo,qp,qq,qr,qs,reduceIte,reduceCtorEq,e1,e2,e7]))|refine ⟨i+1,?_,?_,?_⟩|refine Fits.of ?_ ?_|refine And.intro ?_ ?_|clear hK K)
   all_goals try (first|omega|(simp only [dA,dB,dC];omega))
   all_goals try (exact chE_cnt (by omega))
 have e6:i=8:=by omega
 subst e6
 repeat' (first|refine hR 21 1 _ _ _ (dst_of hnt rfl) ?_|refine vS fun K hK=>?_|refine hK _ ?_;clear hK K|refine hY ?_;clear hX hY X Y|((first|refine vR tok (by rw [hnt];rfl) ?_|refine vC fun X Y hX hY=>?_|(refine vE ?_))<;>(try simp only [go_sem,qa,qb,qc,qd,qe,qf,qg,qh,qi,qj,qk,ql,qm,qn,qo,qp,qq,qr,qs,reduceIte,reduceCtorEq]))|clear hK K)
 all_goals try omega
 simp only [go_sem,qa,qb,qc,qd,qe,qf,qg,qh,qi,qj,qk,ql,qm,qn,qo,qp,qq,qr,qs,reduceIte,reduceCtorEq,List.take_succ_cons,List.take_zero,List.length_cons,List.length_nil,List.drop_succ_cons,List.drop_zero]
 skip
 refine AWpI.close (dst_of hnt rfl) rfl rfl rfl rfl rfl ?_
 refine AWpI.done (by decide) ?_
 have e8:6+a.state.sent.length+16=a.state.sent.length+22:=by omega
 simp only [go_sem,qa,qb,qc,qd,qe,qf,qg,qh,qi,qj,qk,ql,qm,qn,qo,qp,qq,qr,qs,reduceIte,reduceCtorEq,e8]
 repeat' (first|refine vS fun K hK=>?_|refine hK _ ?_;clear hK K|((first|refine vR tok (by rw [hnt];rfl) ?_|refine vT ?_|(refine vF [] ?_))<;>(try simp only [go_sem,qa,qb,qc,qd,qe,qf,qg,qh,qi,qj,qk,ql,qm,qn,qo,qp,qq,qr,qs,reduceIte,reduceCtorEq,e8])))
 all_goals first|omega|(exact chE_cnt (by omega))
def ev0:Event:=⟨0,0,0,0,Packet.none⟩
theorem ev_zero:(Tryz.prog.info? 76).bind (·.zero)=some ev0.val:=by kernel_rfl
theorem play_snoc (v:Two) (es:List Event) (j:Nat) (h:j < es.length):v.play (es.take (j+1))=(v.play (es.take j)).on (es.getD j default):=by
 unfold Two.play
 rw [List.take_succ,List.foldl_append]
 simp [List.getD,h]
theorem dropE_cons (es:List Event) (j:Nat) (h:j < es.length):es.drop j=es.getD j default ::es.drop (j+1):=by
 rw [List.drop_eq_getElem_cons h];simp [List.getD,h]
theorem relayed_1w (v:Two) (hok:wOk v.list=true):Call Tryz.prog 61 [.c (.ptr 0 0 0 0),I 1] (pairH v 3 10) 17 (.o (.c (.ch 17))) ((17,.raw (chE (v.b.state.sent.length+22) (carryE v.b 1) true (v.b.state.sent.length+22) 0)) ::pairH v 3 10) 18:=by
 cases v with
 | mk a b=>exact relayed_1 a b hok
theorem relayed_2w (v:Two) (hok:wOk v.list=true):Call Tryz.prog 61 [.c (.ptr 0 0 0 0),I 2] (pairH v 3 10) 17 (.o (.c (.ch 17))) ((17,.raw (chE (v.a.state.sent.length+22) (carryE v.a 2) true (v.a.state.sent.length+22) 0)) ::pairH v 3 10) 18:=by
 cases v with
 | mk a b=>exact relayed_2 a b hok
theorem carry1_play (v:Two):v.carry 1=v.play (carryE v.b 1):=by unfold Two.carry;rw [if_pos rfl]
theorem carry2_play (v:Two):v.carry 2=v.play (carryE v.a 2):=by unfold Two.carry;rw [if_neg (by decide)]
theorem iCalm_ok (w:Two) (n:Nat) (hn:n≤30) (hok:wOk w.list=true):Call Tryz.prog 37 [.c (.ptr 0 0 0 0),I n] (pairH w 3 10) 17 (.tup []) (pairH (w.calm n) 17 24) 31:=by
 refine vO tok Tryz.func37 rfl rfl Tryz.ntmps37 Tryz.results37 rfl (by decide) (fun cx hnt hk0=>?_)

 repeat' (first|refine vS fun K hK=>?_|refine hK _ ?_;clear hK K|refine vB ?_|((refine vR tok (by rw [hnt];rfl) ?_)<;>(try simp only [go_sem,qa,qb,qc,qd,qe,qf,qg,qh,qi,qj,qk,ql,qm,qn,qo,qp,qq,qr,qs,reduceIte,reduceCtorEq])))
 refine AWp.loop (fun i:Nat=>⟨[(0,.o (.c (.ptr 0 0 0 0))),(7,.o (I n)),(8,.o (I i))],pairH (w.calm i) 17 24,31⟩) (fun i=>i≤n) (fun i=>n - i) 0 (Nat.zero_le _) ?_ ?_
 · refine vL hk0 [] ?_;simp only [go_sem,qa,qb,qc,qd,qe,qf,qg,qh,qi,qj,qk,ql,qm,qn,qo,qp,qq,qr,qs,reduceIte,reduceCtorEq,Two.calm]
   all_goals first|rfl|omega|simp
 intro i hi
 by_cases hlt:i < n
 rotate_left
 · have e6:i=n:=by omega
   subst e6
   repeat' (first|refine vS fun K hK=>?_|refine hK _ ?_;clear hK K|refine hY ?_;clear hX hY X Y|((first|refine vR tok (by rw [hnt];rfl) ?_|refine vC fun X Y hX hY=>?_|refine vE ?_|refine vF [] ?_|(apply gC<;>intro hq<;>(try simp only [nT,nF,n1,n0] at hq)<;>(have hb:=hq)<;>(try simp only [dT,dF,eT,eF] at hb)<;>first|(exfalso;omega)|((try simp only [hq]);clear hq)))<;>(try simp only [go_sem,qa,qb,qc,qd,qe,qf,qg,qh,qi,qj,qk,ql,qm,qn,qo,qp,qq,qr,qs,reduceIte,reduceCtorEq])))
   all_goals first|omega
 have hw:=calm_wOk w hok i
 have e9:w.calm (i+1)=((((w.calm i).on (evBlock 1)).on (evBlock 2)).carry 1).carry 2:=rfl
 generalize w.calm i=v0 at hw e9 ⊢
 have hv1:=two_on_wOk (e:=evBlock 1) hw
 have hv2:=two_on_wOk (e:=evBlock 2) hv1
 have k1:=do_ok v0 (evBlock 1) hw
 have k2:=do_ok (v0.on (evBlock 1)) (evBlock 2) hv1
 repeat' (first|refine vS fun K hK=>?_|refine hK _ ?_;clear hK K|refine hX ?_;clear hX hY X Y|refine vB ?_|((first|refine vR tok (by rw [hnt];rfl) ?_|refine vC fun X Y hX hY=>?_|refine vK ?_|(apply gC<;>intro hq<;>(try simp only [nT,nF,n1,n0] at hq)<;>(have hb:=hq)<;>(try simp only [dT,dF,eT,eF] at hb)<;>first|(exfalso;omega)|((try simp only [hq]);clear hq)))<;>(try simp only [go_sem,qa,qb,qc,qd,qe,qf,qg,qh,qi,qj,qk,ql,qm,qn,qo,qp,qq,qr,qs,reduceIte,reduceCtorEq])))
 all_goals try omega
 refine AWp.loopN 3 fun L hL=>?_
 repeat' (first|refine vS fun K hK=>?_|refine hK _ ?_;clear hK K|refine hX ?_;clear hX hY X Y|refine vB ?_|refine hL _ _ ?_|((first|refine vR tok (by rw [hnt];rfl) ?_|refine vC fun X Y hX hY=>?_|refine vK ?_|(refine runS_c [0,1,2,17,18,19,20,21,22,23,24,25,26,27,28,29,30] (k1) rfl ?_ ?_ ?_))<;>(try simp only [go_sem,qa,qb,qc,qd,qe,qf,qg,qh,qi,qj,qk,ql,qm,qn,qo,qp,qq,qr,qs,reduceIte,reduceCtorEq,evBlock,Packet.none]))|refine Fits.of ?_ ?_|refine And.intro ?_ ?_|clear hK K|clear hL L)
 all_goals try omega
 repeat' (first|refine vS fun K hK=>?_|refine hK _ ?_;clear hK K|refine hY ?_;clear hX hY X Y|refine vB ?_|refine hL _ _ ?_|((first|refine vR tok (by rw [hnt];rfl) ?_|refine vC fun X Y hX hY=>?_|refine vE ?_|(refine runS_c [0,1,2,31,32,33,34,35,36,37,38,39,40,41,42,43,44] (k2) rfl ?_ ?_ ?_))<;>(try simp only [go_sem,qa,qb,qc,qd,qe,qf,qg,qh,qi,qj,qk,ql,qm,qn,qo,qp,qq,qr,qs,reduceIte,reduceCtorEq,evBlock,Packet.none]))|refine Fits.of ?_ ?_|refine And.intro ?_ ?_|clear hK K|clear hL L)
 all_goals try omega
 clear k1 k2
 rw [carry1_play,carry2_play] at e9
 refine AWp.le (s':=⟨[(0,.o (.c (.ptr 0 0 0 0))),(5,.o (I 1)),(7,.o (I n)),(8,.o (I i))],pairH ((v0.on (evBlock 1)).on (evBlock 2)) 17 24,31⟩) ?_ ?_
 · refine vL hk0 [] ?_;simp only [go_sem,qa,qb,qc,qd,qe,qf,qg,qh,qi,qj,qk,ql,qm,qn,qo,qp,qq,qr,qs,reduceIte,reduceCtorEq,evBlock,Packet.none]
   all_goals first|rfl|omega
 generalize (v0.on (evBlock 1)).on (evBlock 2)=v2 at hv2 e9 ⊢
 have r1:=relayed_1w v2 hv2
 have hv3:=two_play_wOk2 (carryE v2.b 1) v2 hv2
 generalize v2.b.state.sent.length+22=c1 at r1
 generalize carryE v2.b 1=es1 at r1 hv3 e9
 have r2:=relayed_2w (v2.play es1) hv3
 generalize (v2.play es1).a.state.sent.length+22=c2 at r2
 generalize carryE (v2.play es1).a 2=es2 at r2 e9
 refine AWp.loopN 3 fun L hL=>?_
 repeat' (first|refine vS fun K hK=>?_|refine hK _ ?_;clear hK K|refine hX ?_;clear hX hY X Y|refine vB ?_|refine hL _ _ ?_|((first|refine vR tok (by rw [hnt];rfl) ?_|refine vC fun X Y hX hY=>?_|refine vK ?_|(refine runS_c [0,1,2,17,18,19,20,21,22,23,24,25,26,27,28,29,30] (r1) rfl ?_ ?_ ?_))<;>(try simp only [go_sem,qa,qb,qc,qd,qe,qf,qg,qh,qi,qj,qk,ql,qm,qn,qo,qp,qq,qr,qs,reduceIte,reduceCtorEq])))
 all_goals try omega
 refine AWp.loop (fun j:Nat=>⟨[(0,.o (.c (.ptr 0 0 0 0))),(5,.o (I 1)),(7,.o (I n)),(8,.o (I i)),(24,.o (.c (.ch 31)))],(31,.raw (chE c1 (es1.drop j) true c1 j)) ::pairH (v2.play (es1.take j)) 17 24,32⟩) (fun j=>j≤es1.length) (fun j=>es1.length - j) 0 (Nat.zero_le _) ?_ ?_
 · refine vL hk0 [] ?_;simp only [go_sem,qa,qb,qc,qd,qe,qf,qg,qh,qi,qj,qk,ql,qm,qn,qo,qp,qq,qr,qs,reduceIte,reduceCtorEq,List.drop_zero,List.take_zero,Two.play,List.foldl_nil]
   all_goals first|rfl|omega
 intro j hj
 have hvj:=two_play_wOk2 (es1.take j) v2 hv2
 by_cases hjl:j < es1.length
 · have ep:=play_snoc v2 es1 j hjl
   rw [dropE_cons es1 j hjl]
   have kd:=do_ok (v2.play (es1.take j)) (es1.getD j default) hvj
   generalize es1.getD j default=e at ep kd ⊢
   repeat' (first|refine AWp.regionI (id:=10) ?_|refine vS fun K hK=>?_)
   refine AWpI.recv e (dst_of hnt rfl) rfl rfl rfl Tryz.underlying108 ev_zero rfl rfl ?_
   refine AWpI.rest tok (dst_of hnt rfl) ?_
   simp only [go_sem,qa,qb,qc,qd,qe,qf,qg,qh,qi,qj,qk,ql,qm,qn,qo,qp,qq,qr,qs,reduceIte,reduceCtorEq,List.take_succ_cons,List.take_zero,List.length_cons,List.length_nil,List.drop_succ_cons,List.drop_zero,Event.cl]
   repeat' (first|refine vS fun K hK=>?_|refine hK _ ?_;clear hK K|refine hX ?_;clear hX hY X Y|refine vB ?_|((first|refine vR tok (by rw [hnt];rfl) ?_|refine vC fun X Y hX hY=>?_|refine vK ?_|refine runS_c [0,1,2,17,18,19,20,21,22,23,24,25,26,27,28,29,30] (kd) rfl ?_ ?_ ?_|(refine vL hk0 [] ?_))<;>(try simp only [go_sem,qa,qb,qc,qd,qe,qf,qg,qh,qi,qj,qk,ql,qm,qn,qo,qp,qq,qr,qs,reduceIte,reduceCtorEq,ep]))|refine ⟨j+1,?_,?_,?_⟩|clear hK K|clear hL L)
   all_goals try (first|omega|(simp only [dA,dB,dC];omega))
 have ej:j=es1.length:=by omega
 subst ej
 rw [List.drop_length,List.take_length] at *
 repeat' (first|refine AWp.regionI (id:=10) ?_|refine vS fun K hK=>?_)
 refine AWpI.shut ev0 (dst_of hnt rfl) rfl rfl rfl Tryz.underlying108 ev_zero rfl rfl ?_
 refine AWpI.rest tok (dst_of hnt rfl) ?_
 simp only [go_sem,qa,qb,qc,qd,qe,qf,qg,qh,qi,qj,qk,ql,qm,qn,qo,qp,qq,qr,qs,reduceIte,reduceCtorEq,List.take_succ_cons,List.take_zero,List.length_cons,List.length_nil,List.drop_succ_cons,List.drop_zero,Event.cl]
 repeat' (first|refine vS fun K hK=>?_|refine hK _ ?_;clear hK K|refine hX ?_;clear hX hY X Y|refine hY ?_;clear hX hY X Y|refine vB ?_|refine hL _ _ ?_|((first|refine vR tok (by rw [hnt];rfl) ?_|refine vC fun X Y hX hY=>?_|refine vK ?_|refine vE ?_|(refine runS_c [0,1,2,17,18,19,20,21,22,23,24,25,26,27,28,29,30] (r2) rfl ?_ ?_ ?_))<;>(try simp only [go_sem,qa,qb,qc,qd,qe,qf,qg,qh,qi,qj,qk,ql,qm,qn,qo,qp,qq,qr,qs,reduceIte,reduceCtorEq]))|refine Fits.of ?_ ?_|refine And.intro ?_ ?_|clear hK K|clear hL L)
 all_goals try omega
 refine AWp.loop (fun j:Nat=>⟨[(0,.o (.c (.ptr 0 0 0 0))),(5,.o (I 2)),(7,.o (I n)),(8,.o (I i)),(24,.o (.c (.ch 32)))],(32,.raw (chE c2 (es2.drop j) true c2 j)) ::pairH ((v2.play es1).play (es2.take j)) 17 24,33⟩) (fun j=>j≤es2.length) (fun j=>es2.length - j) 0 (Nat.zero_le _) ?_ ?_
 · refine vL hk0 [] ?_;simp only [go_sem,qa,qb,qc,qd,qe,qf,qg,qh,qi,qj,qk,ql,qm,qn,qo,qp,qq,qr,qs,reduceIte,reduceCtorEq,List.drop_zero,List.take_zero,Two.play,List.foldl_nil]
   all_goals first|rfl|omega
 intro j hj
 have hvj:=two_play_wOk2 (es2.take j) (v2.play es1) hv3
 by_cases hjl:j < es2.length
 · have ep:=play_snoc (v2.play es1) es2 j hjl
   rw [dropE_cons es2 j hjl]
   have kd:=do_ok ((v2.play es1).play (es2.take j)) (es2.getD j default) hvj
   generalize es2.getD j default=e at ep kd ⊢
   repeat' (first|refine AWp.regionI (id:=10) ?_|refine vS fun K hK=>?_)
   refine AWpI.recv e (dst_of hnt rfl) rfl rfl rfl Tryz.underlying108 ev_zero rfl rfl ?_
   refine AWpI.rest tok (dst_of hnt rfl) ?_
   simp only [go_sem,qa,qb,qc,qd,qe,qf,qg,qh,qi,qj,qk,ql,qm,qn,qo,qp,qq,qr,qs,reduceIte,reduceCtorEq,List.take_succ_cons,List.take_zero,List.length_cons,List.length_nil,List.drop_succ_cons,List.drop_zero,Event.cl]
   repeat' (first|refine vS fun K hK=>?_|refine hK _ ?_;clear hK K|refine hX ?_;clear hX hY X Y|refine vB ?_|((first|refine vR tok (by rw [hnt];rfl) ?_|refine vC fun X Y hX hY=>?_|refine vK ?_|refine runS_c [0,1,2,17,18,19,20,21,22,23,24,25,26,27,28,29,30] (kd) rfl ?_ ?_ ?_|(refine vL hk0 [] ?_))<;>(try simp only [go_sem,qa,qb,qc,qd,qe,qf,qg,qh,qi,qj,qk,ql,qm,qn,qo,qp,qq,qr,qs,reduceIte,reduceCtorEq,ep]))|refine ⟨j+1,?_,?_,?_⟩|clear hK K|clear hL L)
   all_goals try (first|omega|(simp only [dA,dB,dC];omega))
 have ej:j=es2.length:=by omega
 subst ej
 rw [List.drop_length,List.take_length] at *
 repeat' (first|refine AWp.regionI (id:=10) ?_|refine vS fun K hK=>?_)
 refine AWpI.shut ev0 (dst_of hnt rfl) rfl rfl rfl Tryz.underlying108 ev_zero rfl rfl ?_
 refine AWpI.rest tok (dst_of hnt rfl) ?_
 simp only [go_sem,qa,qb,qc,qd,qe,qf,qg,qh,qi,qj,qk,ql,qm,qn,qo,qp,qq,qr,qs,reduceIte,reduceCtorEq,List.take_succ_cons,List.take_zero,List.length_cons,List.length_nil,List.drop_succ_cons,List.drop_zero,Event.cl]
 repeat' (first|refine vS fun K hK=>?_|refine hK _ ?_;clear hK K|refine hY ?_;clear hX hY X Y|refine hL _ _ ?_|((first|refine vR tok (by rw [hnt];rfl) ?_|refine vC fun X Y hX hY=>?_|refine vE ?_|(refine vL hk0 [] ?_))<;>(try simp only [go_sem,qa,qb,qc,qd,qe,qf,qg,qh,qi,qj,qk,ql,qm,qn,qo,qp,qq,qr,qs,reduceIte,reduceCtorEq,e9]))|refine ⟨i+1,?_,?_,?_⟩|refine Fits.of ?_ ?_|refine And.intro ?_ ?_|clear hK K|clear hL L)
 all_goals first|(first|omega|(simp only [dA,dB,dC];omega))
end Go.Hw
namespace Go.Hw
open Go.Proofs
attribute [local irreducible] Fits
section
variable {α:Type} {P:Program} {ti:Nat→Option TI} {g:FuncId} {hb k:Nat} {v:Value} {p:α→Prop} {H':α→Heap} {k':Nat} {s:St} {ch:List PanicEntry}
@[go_sem] theorem defQ_normal:defQ P ti g hb k v p H' k' .normal s=∃ x,p x∧Fin ti [] k (.tup []) (H' x) k' s:=rfl
@[go_sem] theorem defQ_panic:defQ P ti g hb k v p H' k' (.panic ch) s=(ch=[{ v,recovered:=false }]∧DCall P g [.c (.ptr hb 0 0 0)] v s.h s.nx p H' k'):=rfl
end
def lineG (w:Two) (out:Str) (z r ra rb:Nat) (m:Int) (a:Addr) (e7 e8:Value):Heap:=(17,.tbx 39 [.ptr 0 0 0 0,bldC 1 17 (!out.isEmpty),.sl r 1 0 out.length]) ::(r,bufO out z) ::(pairH w ra rb++[(19,.glob 0 (.int .i64 m)),(20,.glob 1 (.iface 268 (.pointer (some a)))),(21,.glob 7 e7),(22,.glob 8 e8)])
attribute [go_sem] lineG
theorem line1_all (w:Two) (W:List Str) (out:Str) (z:Nat) (m:Int) (a:Addr) (e7 e8:Value) (ho:out.length≤900000) :
   DCall (α:=Nat) Tryz.prog 33 [.c (.ptr 23 0 0 0)] (.iface 63 (.agg #[])) ((24,rU W) ::(19,.glob 0 (.int .i64 m)) ::(23,.box [.ptr 17 0 0 0]) ::(17,.tbx 39 [.ptr 0 0 0 0,bldC 1 17 (!out.isEmpty),.sl 18 1 0 out.length]) ::(18,bufO out z) ::(pairH w 3 10++[(20,.glob 1 (.iface 268 (.pointer (some a)))),(21,.glob 7 e7),(22,.glob 8 e8)])) 25 (fun _=>True) (fun z'=>lineG w (out++wWhat) z' 25 26 33 m a e7 e8) 40:=by
 refine DCall.of tok Tryz.func33 rfl Tryz.ntmps33 Tryz.results33 rfl rfl rfl (by decide) rfl (by decide) (fun cx hnt hk0=>?_)
 have c1:=WriteStringL_ok (!out.isEmpty) out [119,104,97,116,10] z (by simp) (by simp;omega)
 refine AWpI.rest tok (dst_of hnt rfl) ?_
 simp only [go_sem,qa,qb,qc,qd,qe,qf,qg,qh,qi,qj,qk,ql,qm,qn,qo,qp,qq,qr,qs,reduceIte,reduceCtorEq,List.drop_succ_cons,List.drop_zero]

 repeat' (first|refine vS fun K hK=>?_|refine hK _ ?_;clear hK K|refine hX ?_;clear hX hY X Y|((first|refine vR tok (by rw [hnt];rfl) ?_|refine vC fun X Y hX hY=>?_|(refine runS_at [17,0,18] (c1) rfl ?_ ?_ (fun z1 y1=>?_)))<;>(try simp only [go_sem,qa,qb,qc,qd,qe,qf,qg,qh,qi,qj,qk,ql,qm,qn,qo,qp,qq,qr,qs,reduceIte,reduceCtorEq,wWhat])))
 refine ⟨z1,?_⟩
 have hE:(out++[119,104,97,116,10]).isEmpty=false:=by simp
 have e:((!(out++[119,104,97,116,10]).isEmpty)=true):=by rw [hE];rfl
 rw [e]
 refine vF [] ?_
 simp only [go_sem,qa,qb,qc,qd,qe,qf,qg,qh,qi,qj,qk,ql,qm,qn,qo,qp,qq,qr,qs,reduceIte,reduceCtorEq]
theorem line_see (a b:Chain) (s:Str) (out:Str) (z:Nat) (m:Int) (ad:Addr) (e7 e8:Value) (hs:s.length≤600) (ho:out.length≤800000) (hoka:a.ok=true) (hokb:b.ok=true) (h0:(cut 32 s).getD 0 []=wSee) :
   CallX (α:=Nat) Tryz.prog 22 [.c (.ptr 17 0 0 0),U s] (lineG ⟨a,b⟩ out z 18 3 10 m ad e7 e8) 23 (fun _=>True) (fun _=>.tup []) (fun z'=>lineG ⟨a,b⟩ (out++(a.text++b.text)) z' 25 26 33 m ad e7 e8) 40:=by
 have hs':s.length≤1000000:=by omega
 have hcl:=cut_len 32 s
 have cS:=Split_ok s 32 m hs'
 have cT:=status_1 a b out z hoka hokb ho
 have h0:(cut 32 s).getD 0 []=[115,101,101]:=h0
 refine CallX.ofD (hb:=23) (v:=.iface 63 (.agg #[])) tok Tryz.func22 rfl rfl Tryz.ntmps22 Tryz.results22 rfl (by decide) ⟨_,Tryz.func33,by kernel_rfl,by kernel_rfl⟩ line1_keep (by decide) rfl (fun cx hnt hk0=>?_)
 simp only [go_sem,qa,qb,qc,qd,qe,qf,qg,qh,qi,qj,qk,ql,qm,qn,qo,qp,qq,qr,qs,reduceIte,reduceCtorEq]
 refine fun cx hnt hk0 hdm=>?_


 repeat' (first|refine vS fun K hK=>?_|refine hK _ ?_;clear hK K|refine hX ?_;clear hX hY X Y|refine hY ?_;clear hX hY X Y|refine vB ?_|((first|refine vR tok (by rw [hnt];rfl) ?_|refine vC fun X Y hX hY=>?_|refine runS_c [19] (cS) rfl ?_ ?_ ?_|(refine runS_at [0,1,2,3,4,5,6,7,8,9,10,11,12,13,14,15,16,17,18] (cT) rfl ?_ ?_ (fun z1 y1=>?_)))<;>(try simp only [go_sem,qa,qb,qc,qd,qe,qf,qg,qh,qi,qj,qk,ql,qm,qn,qo,qp,qq,qr,qs,reduceIte,reduceCtorEq,h0]))|refine aL ?_ fun hp=>?_|clear hK K)
 all_goals try (first|omega|(unfold Big;omega)|(rw [u8m];omega)|(rw [u8M];omega)|(simp only [dA,dB,dC];omega))
 refine ⟨z1,?_⟩
 refine vF [] ?_
 simp only [go_sem,qa,qb,qc,qd,qe,qf,qg,qh,qi,qj,qk,ql,qm,qn,qo,qp,qq,qr,qs,reduceIte,reduceCtorEq]
theorem isEv_ne {a:Str} (h:isEv a=true):(¬ a=[99,97,108,109])∧¬ a=[115,101,101]:=by
 constructor<;>(intro e;subst e;revert h;decide)
theorem calmOk_ok (n:Int):Call Tryz.prog 36 [I n] [] 0 (.o (BB (In n 0 30))) [] 0:=by
 refine vO tok Tryz.func36 rfl rfl Tryz.ntmps36 Tryz.results36 rfl (by decide) (fun cx hnt hk0=>?_)
 repeat' (first|refine vS fun K hK=>?_|refine hK _ ?_;clear hK K|((first|refine vR tok (by rw [hnt];rfl) ?_|refine vT ?_|refine vF [] ?_|(apply gR<;>intro hq<;>(try simp only [nT,nF,n1,n0] at hq)<;>(have hb:=hq)<;>(try simp only [dT,dF,eT,eF] at hb)<;>first|(exfalso;omega)|((try simp only [hq]);clear hq)))<;>(try simp only [go_sem,qa,qb,qc,qd,qe,qf,qg,qh,qi,qj,qk,ql,qm,qn,qo,qp,qq,qr,qs,reduceIte,reduceCtorEq,In])))
 all_goals first|simp [*]
theorem line_event (w:Two) (s:Str) (out:Str) (z:Nat) (m:Int) (ad:Addr) (e7 e8:Value) (hs:s.length≤600) (h7:∃ te pe,e7=.iface te pe) (h8:∃ te pe,e8=.iface te pe) (hok:wOk w.list=true) (h:isEv ((cut 32 s).getD 0 [])=true) :
   Call Tryz.prog 22 [.c (.ptr 17 0 0 0),U s] (lineG w out z 18 3 10 m ad e7 e8) 23 (.tup []) (lineG (w.on (lineE s)) out z 25 26 33 m ad e7 e8) 40:=by
 have hs':s.length≤1000000:=by omega
 have hcl:=cut_len 32 s
 have hpl:∀ i,((cut 32 s).getD i []).length≤1000000:=fun i=>Nat.le_trans (cut_piece2 32 s i) (by omega)
 have cS:=Split_ok s 32 m hs'
 have cE:=lineEvent_ok s m ad e7 e8 hs h7 h8 h
 have cD:=do_ok w (iE s) hok
 rw [iE_on] at cD
 obtain ⟨n1,n2⟩:=isEv_ne h
 unfold GLW at cE
 obtain ⟨a,b⟩:=w
 refine CallX.ofD (hb:=23) (v:=.iface 63 (.agg #[])) tok Tryz.func22 rfl rfl Tryz.ntmps22 Tryz.results22 rfl (by decide) ⟨_,Tryz.func33,by kernel_rfl,by kernel_rfl⟩ line1_keep (by decide) rfl (fun cx hnt hk0=>?_)
 simp only [go_sem,qa,qb,qc,qd,qe,qf,qg,qh,qi,qj,qk,ql,qm,qn,qo,qp,qq,qr,qs,reduceIte,reduceCtorEq]
 refine fun cx hnt hk0 hdm=>?_


 repeat' (first|refine vS fun K hK=>?_|refine hK _ ?_;clear hK K|refine hY ?_;clear hX hY X Y|refine vB ?_|((first|refine vR tok (by rw [hnt];rfl) ?_|refine vC fun X Y hX hY=>?_|refine vF [] ?_|refine runS_c [19] (cS) rfl ?_ ?_ ?_|(refine AWp.draw (id:=4) tok mixed (.tak 0 (.tak 1 (.tak 2 (.tak 3 (.tak 4 (.tak 5 (.all (.cons 6 (.all (.cons 7 .done .nil)) .nil)))))))) [17,23] [1,2,4] (by kernel_rfl) (by kernel_rfl) (by rw [hnt];rfl) ?_)|refine effS_c [19,20,21,22,24] (cE) rfl ?_ ?_ ?_|(refine effS_c [0,1,2,3,4,5,6,7,8,9,10,11,12,13,14,15,16] (cD) rfl ?_ ?_ ?_))<;>(try simp only [go_sem,qa,qb,qc,qd,qe,qf,qg,qh,qi,qj,qk,ql,qm,qn,qo,qp,qq,qr,qs,reduceIte,reduceCtorEq,n1,n2]))|refine aL ?_ fun hp=>?_|clear hK K)
 all_goals try (first|omega|(unfold Big;omega)|(rw [u8m];omega)|(rw [u8M];omega)|(simp only [dA,dB,dC];omega))
theorem line_calm (w:Two) (s:Str) (out:Str) (z:Nat) (m:Int) (ad:Addr) (e7 e8:Value) (hs:s.length≤600) (h7:∃ te pe,e7=.iface te pe) (h8:∃ te pe,e8=.iface te pe) (hok:wOk w.list=true) (h0:(cut 32 s).getD 0 []=wCalm) (h:In (numAt (cut 32 s) 1) 0 30=true) :
   Call Tryz.prog 22 [.c (.ptr 17 0 0 0),U s] (lineG w out z 18 3 10 m ad e7 e8) 23 (.tup []) (lineG (w.calm (numAt (cut 32 s) 1).toNat) out z 25 26 33 m ad e7 e8) 40:=by
 have hs':s.length≤1000000:=by omega
 have hcl:=cut_len 32 s
 have hpl:∀ i,((cut 32 s).getD i []).length≤1000000:=fun i=>Nat.le_trans (cut_piece2 32 s i) (by omega)
 have cS:=Split_ok s 32 m hs'
 have cN:=lineNumber_row (cut 32 s) 1 1 rfl (by omega) (by omega) hpl
 have cO:=calmOk_ok (numAt (cut 32 s) 1)
 rw [h] at cO
 have hin:=In_iff.1 h
 have cC:=iCalm_ok w (numAt (cut 32 s) 1).toNat (by omega) hok
 have e:(((numAt (cut 32 s) 1).toNat:Nat):Int)=numAt (cut 32 s) 1:=by omega
 rw [e] at cC
 have h0:(cut 32 s).getD 0 []=[99,97,108,109]:=h0
 obtain ⟨a,b⟩:=w
 refine CallX.ofD (hb:=23) (v:=.iface 63 (.agg #[])) tok Tryz.func22 rfl rfl Tryz.ntmps22 Tryz.results22 rfl (by decide) ⟨_,Tryz.func33,by kernel_rfl,by kernel_rfl⟩ line1_keep (by decide) rfl (fun cx hnt hk0=>?_)
 simp only [go_sem,qa,qb,qc,qd,qe,qf,qg,qh,qi,qj,qk,ql,qm,qn,qo,qp,qq,qr,qs,reduceIte,reduceCtorEq]
 refine fun cx hnt hk0 hdm=>?_


 repeat' (first|refine vS fun K hK=>?_|refine hK _ ?_;clear hK K|refine hX ?_;clear hX hY X Y|refine hY ?_;clear hX hY X Y|refine vB ?_|((first|refine vR tok (by rw [hnt];rfl) ?_|refine vC fun X Y hX hY=>?_|refine vK ?_|refine vF [] ?_|refine runS_c [19] (cS) rfl ?_ ?_ ?_|refine runS_c [24] (cN) rfl ?_ ?_ ?_|refine runS_c [] (cO) rfl ?_ ?_ ?_|(refine runS_c [0,1,2,3,4,5,6,7,8,9,10,11,12,13,14,15,16] (cC) rfl ?_ ?_ ?_))<;>(try simp only [go_sem,qa,qb,qc,qd,qe,qf,qg,qh,qi,qj,qk,ql,qm,qn,qo,qp,qq,qr,qs,reduceIte,reduceCtorEq,h0]))|refine aL ?_ fun hp=>?_|clear hK K)
 all_goals try (first|omega|(unfold Big;omega)|(rw [u8m];omega)|(rw [u8M];omega)|(simp only [dA,dB,dC];omega))
theorem line_bad (w:Two) (s:Str) (out:Str) (z:Nat) (m:Int) (ad:Addr) (e7 e8:Value) (hs:s.length≤600) (ho:out.length≤800000) (h0:(cut 32 s).getD 0 []=wCalm) (h:In (numAt (cut 32 s) 1) 0 30=false) :
   CallX (α:=Nat) Tryz.prog 22 [.c (.ptr 17 0 0 0),U s] (lineG w out z 18 3 10 m ad e7 e8) 23 (fun _=>True) (fun _=>.tup []) (fun z'=>lineG w (out++wWhat) z' 25 26 33 m ad e7 e8) 40:=by
 have hs':s.length≤1000000:=by omega
 have hcl:=cut_len 32 s
 have hpl:∀ i,((cut 32 s).getD i []).length≤1000000:=fun i=>Nat.le_trans (cut_piece2 32 s i) (by omega)
 have cS:=Split_ok s 32 m hs'
 have cN:=lineNumber_row (cut 32 s) 1 1 rfl (by omega) (by omega) hpl
 have cO:=calmOk_ok (numAt (cut 32 s) 1)
 rw [h] at cO
 have h0:(cut 32 s).getD 0 []=[99,97,108,109]:=h0
 have cL:=line1_all w (cut 32 s) out z m ad e7 e8 (by omega)
 generalize hF:(fun z':Nat=>lineG w (out++wWhat) z' 25 26 33 m ad e7 e8)=F at cL ⊢
 obtain ⟨a,b⟩:=w
 refine CallX.ofD (hb:=23) (v:=.iface 63 (.agg #[])) tok Tryz.func22 rfl rfl Tryz.ntmps22 Tryz.results22 rfl (by decide) ⟨_,Tryz.func33,by kernel_rfl,by kernel_rfl⟩ line1_keep (by decide) rfl (fun cx hnt hk0=>?_)
 simp only [go_sem,qa,qb,qc,qd,qe,qf,qg,qh,qi,qj,qk,ql,qm,qn,qo,qp,qq,qr,qs,reduceIte,reduceCtorEq]
 refine fun cx hnt hk0 hdm=>?_


 have hR:=fun (ops:List Oper) (Q:Exit→St→Prop) (s:St) (hd:dstOk cx.nt ops=true) h=>AWp.regN (P:=Tryz.prog) (c:=cx) (Q:=Q) (s:=s) (ops:=ops) (id:=8) 2 tok hd h

 repeat' (first|refine hR _ _ _ (dst_of hnt rfl) ?_|refine vS fun K hK=>?_|refine hK _ ?_;clear hK K|refine hX ?_;clear hX hY X Y|refine vB ?_|((first|refine vR tok (by rw [hnt];rfl) ?_|refine vC fun X Y hX hY=>?_|refine runS_c [19] (cS) rfl ?_ ?_ ?_|refine runS_c [24] (cN) rfl ?_ ?_ ?_|(refine runS_c [] (cO) rfl ?_ ?_ ?_))<;>(try simp only [go_sem,qa,qb,qc,qd,qe,qf,qg,qh,qi,qj,qk,ql,qm,qn,qo,qp,qq,qr,qs,reduceIte,reduceCtorEq,h0]))|refine aL ?_ fun hp=>?_|clear hK K)
 all_goals try (first|omega|(unfold Big;omega)|(rw [u8m];omega)|(rw [u8M];omega)|(simp only [dA,dB,dC];omega))
 simp only [go_sem,qa,qb,qc,qd,qe,qf,qg,qh,qi,qj,qk,ql,qm,qn,qo,qp,qq,qr,qs,reduceIte,reduceCtorEq,List.take_succ_cons,List.take_zero,List.length_cons,List.length_nil,List.drop_succ_cons,List.drop_zero]
 skip
 refine AWpI.panic rfl rfl rfl rfl ?_
 refine ⟨rfl,?_⟩
 exact cL
theorem line_what (w:Two) (s:Str) (out:Str) (z:Nat) (m:Int) (ad:Addr) (e7 e8:Value) (hs:s.length≤600) (ho:out.length≤800000) (n1:¬ (cut 32 s).getD 0 []=wCalm) (n2:¬ (cut 32 s).getD 0 []=wSee) (h:¬ isEv ((cut 32 s).getD 0 [])=true) :
   CallX (α:=Nat) Tryz.prog 22 [.c (.ptr 17 0 0 0),U s] (lineG w out z 18 3 10 m ad e7 e8) 23 (fun _=>True) (fun _=>.tup []) (fun z'=>lineG w (out++wWhat) z' 25 26 33 m ad e7 e8) 40:=by
 have hs':s.length≤1000000:=by omega
 have hcl:=cut_len 32 s
 have hpl:∀ i,((cut 32 s).getD i []).length≤1000000:=fun i=>Nat.le_trans (cut_piece2 32 s i) (by omega)
 have cS:=Split_ok s 32 m hs'
 have n1:¬ (cut 32 s).getD 0 []=[99,97,108,109]:=n1
 have n2:¬ (cut 32 s).getD 0 []=[115,101,101]:=n2
 have cL:=line1_all w (cut 32 s) out z m ad e7 e8 (by omega)
 generalize hF:(fun z':Nat=>lineG w (out++wWhat) z' 25 26 33 m ad e7 e8)=F at cL ⊢
 have cP:=lineEvent_panic s hs h
 obtain ⟨a,b⟩:=w
 refine CallX.ofD (hb:=23) (v:=.iface 63 (.agg #[])) tok Tryz.func22 rfl rfl Tryz.ntmps22 Tryz.results22 rfl (by decide) ⟨_,Tryz.func33,by kernel_rfl,by kernel_rfl⟩ line1_keep (by decide) rfl (fun cx hnt hk0=>?_)
 simp only [go_sem,qa,qb,qc,qd,qe,qf,qg,qh,qi,qj,qk,ql,qm,qn,qo,qp,qq,qr,qs,reduceIte,reduceCtorEq]
 refine fun cx hnt hk0 hdm=>?_



 repeat' (first|refine vS fun K hK=>?_|refine hK _ ?_;clear hK K|refine hY ?_;clear hX hY X Y|refine vB ?_|((first|refine vR tok (by rw [hnt];rfl) ?_|refine vC fun X Y hX hY=>?_|(refine runS_c [19] (cS) rfl ?_ ?_ ?_))<;>(try simp only [go_sem,qa,qb,qc,qd,qe,qf,qg,qh,qi,qj,qk,ql,qm,qn,qo,qp,qq,qr,qs,reduceIte,reduceCtorEq,n1,n2]))|refine aL ?_ fun hp=>?_|clear hK K)
 all_goals try (first|omega|(unfold Big;omega)|(rw [u8m];omega)|(rw [u8M];omega)|(simp only [dA,dB,dC];omega))
 refine AWp.drawP (id:=4) tok mixed hdm 6 (.iface 63 (.agg #[])) (.tak 0 (.tak 1 (.tak 2 (.tak 3 (.tak 4 (.tak 5 .done)))))) [1,2,4] (by kernel_rfl) (by kernel_rfl) (by rw [hnt];rfl) ?_ ?_
 · simp only [go_sem,qa,qb,qc,qd,qe,qf,qg,qh,qi,qj,qk,ql,qm,qn,qo,qp,qq,qr,qs,reduceIte,reduceCtorEq]
   refine ⟨_,_,_,rfl,rfl,rfl,APn.row cP ?_⟩
   exact List.mem_cons_self
 · refine ⟨rfl,?_⟩
   exact cL
theorem line_ok (w:Two) (s:Str) (out:Str) (z:Nat) (m:Int) (ad:Addr) (e7 e8:Value) (hs:s.length≤600) (h7:∃ te pe,e7=.iface te pe) (h8:∃ te pe,e8=.iface te pe) (hok:wOk w.list=true) (ho:out.length≤800000) :
   CallX (α:=Nat) Tryz.prog 22 [.c (.ptr 17 0 0 0),U s] (lineG w out z 18 3 10 m ad e7 e8) 23 (fun _=>True) (fun _=>.tup []) (fun z'=>lineG (lineDo w s) (out++lineOut w s) z' 25 26 33 m ad e7 e8) 40:=by
 by_cases h1:isEv ((cut 32 s).getD 0 [])=true
 · have e1:lineDo w s=w.on (lineE s):=by unfold lineDo;dsimp only;rw [if_pos h1]
   have e2:lineOut w s=[]:=by unfold lineOut;dsimp only;rw [if_pos h1]
   rw [e1,e2,List.append_nil]
   exact (line_event w s out z m ad e7 e8 hs h7 h8 hok h1).pick fun _ _=>⟨z,trivial,rfl,rfl⟩
 by_cases h2:(cut 32 s).getD 0 []=wCalm
 · by_cases h3:In (numAt (cut 32 s) 1) 0 30=true
   · have e1:lineDo w s=w.calm (numAt (cut 32 s) 1).toNat:=by unfold lineDo;dsimp only;rw [if_neg h1,if_pos h2,if_pos h3]
     have e2:lineOut w s=[]:=by unfold lineOut;dsimp only;rw [if_neg h1,if_pos h2,if_pos h3]
     rw [e1,e2,List.append_nil]
     exact (line_calm w s out z m ad e7 e8 hs h7 h8 hok h2 h3).pick fun _ _=>⟨z,trivial,rfl,rfl⟩
   · have e1:lineDo w s=w:=by unfold lineDo;dsimp only;rw [if_neg h1,if_pos h2,if_neg h3]
     have e2:lineOut w s=wWhat:=by unfold lineOut;dsimp only;rw [if_neg h1,if_pos h2,if_neg h3]
     rw [e1,e2]
     exact line_bad w s out z m ad e7 e8 hs ho h2 (by simpa using h3)
 by_cases h4:(cut 32 s).getD 0 []=wSee
 · have e1:lineDo w s=w:=by unfold lineDo;dsimp only;rw [if_neg h1,if_neg h2]
   have e2:lineOut w s=w.text:=by unfold lineOut;dsimp only;rw [if_neg h1,if_neg h2,if_pos h4]
   rw [e1,e2]
   obtain ⟨a,b⟩:=w
   have hab:=wOk_iff.1 hok
   exact line_see a b s out z m ad e7 e8 hs ho hab.1 hab.2.1 h4
 · have e1:lineDo w s=w:=by unfold lineDo;dsimp only;rw [if_neg h1,if_neg h2]
   have e2:lineOut w s=wWhat:=by unfold lineOut;dsimp only;rw [if_neg h1,if_neg h2,if_neg h4]
   rw [e1,e2]
   exact line_what w s out z m ad e7 e8 hs ho h2 h4 h1
def runH2 (w:Two) (out:Str) (z:Nat):Heap:=(21,.tbx 39 [.ptr 4 0 0 0,bldC 1 21 (!out.isEmpty),.sl 23 1 0 out.length]) ::(23,bufO out z) ::(4,.box [.ptr 5 0 0 0,.ptr 6 0 0 0]) ::(linkH w.a 5 7++linkH w.b 6 14)
attribute [go_sem] runH2
def Wi (s:Str) (i:Nat):Two:=(runL Two.new ((cut 10 s).dropLast.take i)).1
def Oi (s:Str) (i:Nat):Str:=(runL Two.new ((cut 10 s).dropLast.take i)).2
theorem Wi_zero (s:Str):Wi s 0=Two.new:=rfl
theorem Oi_zero (s:Str):Oi s 0=[]:=rfl
theorem dropLast_getD (l:List Str) (i:Nat) (h:i < l.length - 1):l.dropLast.getD i []=l.getD i []:=by
 have h2:i < l.length:=by omega
 simp only [List.getD_eq_getElem?_getD,List.getElem?_dropLast,if_pos h]
theorem WO_succ (s:Str) (i:Nat) (h:i < (cut 10 s).length - 1):Wi s (i+1)=lineDo (Wi s i) ((cut 10 s).getD i [])∧Oi s (i+1)=Oi s i++lineOut (Wi s i) ((cut 10 s).getD i []):=by
 have h1:i < (cut 10 s).dropLast.length:=by rw [List.length_dropLast];exact h
 have e:=dropLast_getD (cut 10 s) i h
 have e2:(cut 10 s).dropLast.getD i []=(cut 10 s).dropLast[i]:=by rw [List.getD_eq_getElem?_getD,List.getElem?_eq_getElem h1,Option.getD_some]
 unfold Wi Oi
 rw [List.take_succ_eq_append_getElem h1,runL_snoc,← e2,e]
 exact ⟨rfl,rfl⟩
theorem new_wOk:wOk Two.new.list=true:=by decide +kernel
theorem Wi_ok (s:Str) (i:Nat):wOk (Wi s i).list=true:=runL_wOk _ _ new_wOk
theorem Oi_len (s:Str) (i:Nat):(Oi s i).length≤400 * (cut 10 s).length:=by
 refine Nat.le_trans (runL_len _ _ new_wOk) ?_
 have:((cut 10 s).dropLast.take i).length≤(cut 10 s).length:=by rw [List.length_take,List.length_dropLast];omega
 omega
theorem iLinesRun_long (s:Str) (m:Int) (ad:Addr) (e7 e8:Value) (hs:s.length≤2000000) (h:¬ s.length≤600) :
   Call Tryz.prog 14 [U s] (GL m (.iface 268 (.pointer (some ad))) e7 e8) 4 (.o (U (linesT s))) (GL m (.iface 268 (.pointer (some ad))) e7 e8) 4:=by
 have e:linesT s=tooLong:=by unfold linesT;rw [if_pos (by omega)]
 rw [e]
 unfold tooLong
 have h':(600:Int) < s.length:=by omega
 refine vO tok Tryz.func14 rfl rfl Tryz.ntmps14 Tryz.results14 rfl (by decide) (fun cx hnt hk0=>?_)
 repeat' (first|refine vS fun K hK=>?_|refine hK _ ?_;clear hK K|refine hX ?_;clear hX hY X Y|((first|refine vR tok (by rw [hnt];rfl) ?_|refine vC fun X Y hX hY=>?_|refine vT ?_|(refine vF [] ?_))<;>(try simp only [go_sem,qa,qb,qc,qd,qe,qf,qg,qh,qi,qj,qk,ql,qm,qn,qo,qp,qq,qr,qs,reduceIte,reduceCtorEq,h'])))
 all_goals first|(first|omega|(unfold Big;omega)|(rw [u8m];omega)|(rw [u8M];omega)|(simp only [dA,dB,dC];omega))|omega
theorem iLinesRun_short (s:Str) (m:Int) (ad:Addr) (e7 e8:Value) (h:s.length≤600) (hgt:1 < (cut 10 s).length) (h7:∃ te pe,e7=.iface te pe) (h8:∃ te pe,e8=.iface te pe) :
   Call Tryz.prog 14 [U s] (GL m (.iface 268 (.pointer (some ad))) e7 e8) 4 (.o (U (linesT s))) (GL m (.iface 268 (.pointer (some ad))) e7 e8) 4:=by
 have e:linesT s=(runL Two.new (cut 10 s).dropLast).2++(runL Two.new (cut 10 s).dropLast).1.text:=by unfold linesT;rw [if_neg (by omega)]
 rw [e]
 have hs':s.length≤1000000:=by omega
 have hcl:=cut_len 10 s
 have hpl:∀ i,((cut 10 s).getD i []).length≤600:=fun i=>Nat.le_trans (cut_piece2 10 s i) (by omega)
 have cS:=Split_ok s 10 m hs'
 refine vO tok Tryz.func14 rfl rfl Tryz.ntmps14 Tryz.results14 rfl (by decide) (fun cx hnt hk0=>?_)
 have hR:=fun (ops:List Oper) (Q:Exit→St→Prop) (s:St) (hd:dstOk cx.nt ops=true) h=>AWp.regN (P:=Tryz.prog) (c:=cx) (Q:=Q) (s:=s) (ops:=ops) (id:=3) 2 tok hd h
 repeat' (first|refine hR _ _ _ (dst_of hnt rfl) ?_|refine vS fun K hK=>?_|refine hK _ ?_;clear hK K|refine hY ?_;clear hX hY X Y|((first|refine vR tok (by rw [hnt];rfl) ?_|refine vC fun X Y hX hY=>?_|refine vK ?_|(apply gC<;>intro hq<;>(try simp only [nT,nF,n1,n0] at hq)<;>(have hb:=hq)<;>(try simp only [dT,dF,eT,eF] at hb)<;>first|(exfalso;omega)|((try simp only [hq]);clear hq)))<;>(try simp only [go_sem,qa,qb,qc,qd,qe,qf,qg,qh,qi,qj,qk,ql,qm,qn,qo,qp,qq,qr,qs,reduceIte,reduceCtorEq])))
 all_goals try (first|omega|(unfold Big;omega)|(rw [u8m];omega)|(rw [u8M];omega)|(simp only [dA,dB,dC];omega))
 all_goals try omega
 simp only [go_sem,qa,qb,qc,qd,qe,qf,qg,qh,qi,qj,qk,ql,qm,qn,qo,qp,qq,qr,qs,reduceIte,reduceCtorEq,List.take_succ_cons,List.take_zero,List.length_cons,List.length_nil,List.drop_succ_cons,List.drop_zero]
 repeat' (first|((refine runS_c [] (pairNew_ok) rfl ?_ ?_ ?_)<;>(try simp only [go_sem,qa,qb,qc,qd,qe,qf,qg,qh,qi,qj,qk,ql,qm,qn,qo,qp,qq,qr,qs,reduceIte,reduceCtorEq])))
 refine AWpI.tbx (dst_of hnt rfl) rfl rfl rfl rfl ?_
 refine AWpI.rest tok (dst_of hnt rfl) ?_
 simp only [go_sem,qa,qb,qc,qd,qe,qf,qg,qh,qi,qj,qk,ql,qm,qn,qo,qp,qq,qr,qs,reduceIte,reduceCtorEq,List.drop_succ_cons,List.drop_zero]
 repeat' (first|refine bL ?_|refine vS fun K hK=>?_|refine hK _ ?_;clear hK K|refine vB ?_|((first|refine vR tok (by rw [hnt];rfl) ?_|(refine runS_c [0] (cS) rfl ?_ ?_ ?_))<;>(try simp only [go_sem,qa,qb,qc,qd,qe,qf,qg,qh,qi,qj,qk,ql,qm,qn,qo,qp,qq,qr,qs,reduceIte,reduceCtorEq]))|refine Fits.of ?_ ?_|refine aL ?_ fun hp=>?_|refine And.intro ?_ ?_|clear hK K)
 all_goals try (first|omega|(unfold Big;omega)|(rw [u8m];omega)|(rw [u8M];omega)|(simp only [dA,dB,dC];omega))
 all_goals try omega
 have hN:((((cut 10 s).length:Int) - 1).toNat)=(cut 10 s).length - 1:=by omega
 refine AWp.loop (fun x:Nat × Nat=>⟨[(3,.o (.c (.ptr 21 0 0 0))),(19,.o (.c (.sl 22 1 0 ((cut 10 s).length - 1)))),(20,.o (I (((cut 10 s).length - 1:Nat):Int))),(21,.o (I x.1))],[(0,.glob 0 (.int .i64 m)),(1,.glob 1 (.iface 268 (.pointer (some ad)))),(2,.glob 7 e7),(3,.glob 8 e8),(22,rU (cut 10 s))]++runH2 (Wi s x.1) (Oi s x.1) x.2,24⟩) (fun x=>x.1≤(cut 10 s).length - 1) (fun x=>(cut 10 s).length - 1 - x.1) (0,0) (Nat.zero_le _) ?_ ?_
 · refine vL hk0 [] ?_;simp only [go_sem,qa,qb,qc,qd,qe,qf,qg,qh,qi,qj,qk,ql,qm,qn,qo,qp,qq,qr,qs,reduceIte,reduceCtorEq,Wi_zero,Oi_zero,bldC,List.isEmpty_nil,Bool.not_true,hN]
   all_goals first|rfl|omega
 rintro ⟨i,z⟩ hi
 have hi:i≤(cut 10 s).length - 1:=hi
 have hol:=Oi_len s i
 have hwk:=Wi_ok s i
 by_cases hlt:i < (cut 10 s).length - 1
 · obtain ⟨e1,e2⟩:=WO_succ s i hlt
   have cL:=line_ok (Wi s i) ((cut 10 s).getD i []) (Oi s i) z m ad e7 e8 (hpl i) h7 h8 hwk (by omega)
   rw [← e1,← e2] at cL
   repeat' (first|refine bL ?_|refine vS fun K hK=>?_|refine hK _ ?_;clear hK K|refine hX ?_;clear hX hY X Y|refine vB ?_|((first|refine vR tok (by rw [hnt];rfl) ?_|refine vC fun X Y hX hY=>?_|refine vK ?_|(refine runS_at [4,5,6,7,8,9,10,11,12,13,14,15,16,17,18,19,20,21,23,0,1,2,3] (cL) rfl ?_ ?_ (fun z1 y1=>?_))|(apply gC<;>intro hq<;>(try simp only [nT,nF,n1,n0] at hq)<;>(have hb:=hq)<;>(try simp only [dT,dF,eT,eF] at hb)<;>first|(exfalso;omega)|((try simp only [hq]);clear hq)))<;>(try simp only [go_sem,qa,qb,qc,qd,qe,qf,qg,qh,qi,qj,qk,ql,qm,qn,qo,qp,qq,qr,qs,reduceIte,reduceCtorEq]))|refine Fits.of ?_ ?_|refine aL ?_ fun hp=>?_|refine aE ?_ fun hp=>?_|refine aC ?_ fun hp=>?_|refine And.intro ?_ ?_|clear hK K)
   all_goals try (first|omega|(unfold Big;omega)|(rw [u8m];omega)|(rw [u8M];omega)|(simp only [dA,dB,dC];omega))
   refine ⟨(i+1,z1),(by show i+1≤_;omega),?_,(by show _ - (i+1) < _ - i;omega)⟩
   dsimp only
   cases hE:(Oi s (i+1)).isEmpty
   · refine vL hk0 [] ?_
     simp only [go_sem,qa,qb,qc,qd,qe,qf,qg,qh,qi,qj,qk,ql,qm,qn,qo,qp,qq,qr,qs,reduceIte,reduceCtorEq,hE,Bool.not_false,bldC]
     all_goals first|rfl|omega
   · refine vL hk0 [] ?_
     simp only [go_sem,qa,qb,qc,qd,qe,qf,qg,qh,qi,qj,qk,ql,qm,qn,qo,qp,qq,qr,qs,reduceIte,reduceCtorEq,hE,Bool.not_true,bldC]
     all_goals first|rfl|omega
 have hie:i=(cut 10 s).length - 1:=by omega
 have f1:Wi s i=(runL Two.new (cut 10 s).dropLast).1:=by unfold Wi;rw [List.take_of_length_le (by rw [List.length_dropLast];omega)]
 have f2:Oi s i=(runL Two.new (cut 10 s).dropLast).2:=by unfold Oi;rw [List.take_of_length_le (by rw [List.length_dropLast];omega)]
 rw [← f1,← f2]
 have cT:=status_1 (Wi s i).a (Wi s i).b (Oi s i) z (wOk_iff.1 hwk).1 (wOk_iff.1 hwk).2.1 (by omega)
 have hne:Oi s i++((Wi s i).a.text++(Wi s i).b.text) ≠ []:=by
   have:=jn_text (Wi s i).a (chain_ok (wOk_iff.1 hwk).1).2.2.1
   rw [← this];simp
 have cG:=fun z=>String_call (T:=39) (o:=1) (r:=2) (k:=3) (z:=z) (cl:=[.ptr 1 0 0 0,bldC 1 0 (!(Oi s i++((Wi s i).a.text++(Wi s i).b.text)).isEmpty),.sl 2 1 0 (Oi s i++((Wi s i).a.text++(Wi s i).b.text)).length]) (l:=Oi s i++((Wi s i).a.text++(Wi s i).b.text)) hne (by decide) rfl
 have e4:(Wi s i).text=(Wi s i).a.text++(Wi s i).b.text:=rfl
 rw [e4]
 repeat' (first|refine vS fun K hK=>?_|refine hK _ ?_;clear hK K|refine hY ?_;clear hX hY X Y|((first|refine vR tok (by rw [hnt];rfl) ?_|refine vC fun X Y hX hY=>?_|refine vE ?_|refine vT ?_|refine vF [] ?_|(refine runS_at [4,5,6,7,8,9,10,11,12,13,14,15,16,17,18,19,20,21,23] (cT) rfl ?_ ?_ (fun z1 y1=>?_))|(refine runS_c [21,4,24] ((cG z1)) rfl ?_ ?_ ?_)|(apply gC<;>intro hq<;>(try simp only [nT,nF,n1,n0] at hq)<;>(have hb:=hq)<;>(try simp only [dT,dF,eT,eF] at hb)<;>first|(exfalso;omega)|((try simp only [hq]);clear hq)))<;>(try simp only [go_sem,qa,qb,qc,qd,qe,qf,qg,qh,qi,qj,qk,ql,qm,qn,qo,qp,qq,qr,qs,reduceIte,reduceCtorEq]))|clear hK K)
 all_goals try (first|omega|(unfold Big;omega)|(rw [u8m];omega)|(rw [u8M];omega)|(simp only [dA,dB,dC];omega))
 all_goals try omega
 rw [f2,f1];rfl
end Go.Hw
namespace Go.Hw
open Go.Proofs
theorem AWpI.slice0 {P:Program} {ti:Nat→Option TI} {c:Ctx} {Q:Exit→St→Prop} {s:St} {ops:List Oper} {i:Nat} (hT:TOk P ti) {o:Oper} {x hi:Operand} {t k wd n e:Nat} {tx te:TI} {f:Nat→Nat→TV} (hd:dstOk c.nt ops=true) (hn:ops[i]? = some o) (hg:o.guard=none) (ho:o.op=.slice t x none (some hi) none)
   (hx:evO s x=some (.o (.c (.sl k wd 0 n)))) (h0:n ≠ 0) (hh:boundA s n (some hi)=some 0) (htx:ti t=some tx) (hk:tx.k=.sli e) (hte:ti e=some te) (hw:wd=te.size)
   (h:AWpI P c ops (i+1) Q (s.put o.dst (.o (.c (.t (.sl wd 0 f)))))):AWpI P c ops i Q s:=by
 refine AWpI.val (H':=s.h) (nx':=s.nx) hd hn hg (fun a w A ρ hr=>?_) h
 have hx':=evO_sound hr hx
 obtain ⟨_,op,_,_,_,_⟩:=o
 dsimp only at ho;subst ho
 obtain ⟨dd,hdd,hu⟩:=run_und (hT _ _ htx) w
 rw [hk] at hdd
 cases dd<;>simp only [kindOf,reduceCtorEq] at hdd
 rename_i e'
 injection hdd with hdd;subst hdd
 have hs:=run_size (hT _ _ hte) w
 subst hw
 rcases hx' with ⟨h1,_⟩|⟨_,b,m,cap,hk1,hv,hc1,hc2⟩
 · exact absurd h1 h0
 have hl:boundA s 0 none=some 0:=rfl
 have hbd:=run_bounds (P:=P) (w:=w) (a:=a) (q:=true) hc1.1 (boundA_none (P:=P) hr hl) (boundA_none (P:=P) hr hh) (by omega) (by omega) (by omega)
 refine ⟨.slice (some ⟨b,(0+(0:Int).toNat) * te.size,none⟩) 0 (cap - (0:Int).toNat),w,A,ρ,?_,hr,⟨_,_,rfl,by omega,fun i hi=>by omega⟩⟩
 have:(Instr.sliceAt t (a.eval x) none (some (a.eval hi)) none).run P w=.ok (.slice (some ⟨b,(0+(0:Int).toNat) * te.size,none⟩) 0 (cap - (0:Int).toNat)) w:=by
   rw [hv]
   simp only [Option.map_some,Option.map_none] at hbd
   simp only [Instr.sliceAt,Sem.run_bind,hu,Result.andThen_ok,Instr.slice,hbd,hs,Sem.run_pure]
   congr 2
   · by_cases hcl:cap=(0:Int).toNat
     · rw [if_pos hcl];simp
     · rw [if_neg hcl];simp [add_lit]
 simp [execOp,this]
attribute [local irreducible] Fits
theorem iLinesRun_none (s:Str) (m:Int) (ad:Addr) (e7 e8:Value) (h:s.length≤600) (h7:∃ te pe,e7=.iface te pe) (h8:∃ te pe,e8=.iface te pe) (h1:(cut 10 s).length=1) :
   Call Tryz.prog 14 [U s] (GL m (.iface 268 (.pointer (some ad))) e7 e8) 4 (.o (U (linesT s))) (GL m (.iface 268 (.pointer (some ad))) e7 e8) 4:=by
 have hd:(cut 10 s).dropLast=[]:=by apply List.eq_nil_of_length_eq_zero;rw [List.length_dropLast];omega
 have e:linesT s=[]++(Two.new.a.text++Two.new.b.text):=by unfold linesT;rw [if_neg (by omega),hd];rfl
 rw [e]
 have hs':s.length≤1000000:=by omega
 have cS:=Split_ok s 10 m hs'
 have cT:=status_1 Two.new.a Two.new.b [] 0 two_new_ok.1 two_new_ok.2 (by simp)
 have hne:([]:Str)++(Two.new.a.text++Two.new.b.text) ≠ []:=by decide +kernel
 refine vO tok Tryz.func14 rfl rfl Tryz.ntmps14 Tryz.results14 rfl (by decide) (fun cx hnt hk0=>?_)
 have hR:=fun (i n:Nat) (ops:List Oper) (Q:Exit→St→Prop) (s:St) (hd:dstOk cx.nt ops=true) h=>AWp.regN (P:=Tryz.prog) (c:=cx) (Q:=Q) (s:=s) (ops:=ops) (id:=i) n tok hd h
 repeat' (first|refine hR 3 2 _ _ _ (dst_of hnt rfl) ?_|refine vS fun K hK=>?_|refine hK _ ?_;clear hK K|refine hY ?_;clear hX hY X Y|((first|refine vR tok (by rw [hnt];rfl) ?_|refine vC fun X Y hX hY=>?_|refine vK ?_|(apply gC<;>intro hq<;>(try simp only [nT,nF,n1,n0] at hq)<;>(have hb:=hq)<;>(try simp only [dT,dF,eT,eF] at hb)<;>first|(exfalso;omega)|((try simp only [hq]);clear hq)))<;>(try simp only [go_sem,qa,qb,qc,qd,qe,qf,qg,qh,qi,qj,qk,ql,qm,qn,qo,qp,qq,qr,qs,reduceIte,reduceCtorEq])))
 all_goals try (first|omega|(unfold Big;omega)|(rw [u8m];omega)|(rw [u8M];omega)|(simp only [dA,dB,dC];omega))
 all_goals try omega
 simp only [go_sem,qa,qb,qc,qd,qe,qf,qg,qh,qi,qj,qk,ql,qm,qn,qo,qp,qq,qr,qs,reduceIte,reduceCtorEq,List.take_succ_cons,List.take_zero,List.length_cons,List.length_nil,List.drop_succ_cons,List.drop_zero]
 repeat' (first|((refine runS_c [] (pairNew_ok) rfl ?_ ?_ ?_)<;>(try simp only [go_sem,qa,qb,qc,qd,qe,qf,qg,qh,qi,qj,qk,ql,qm,qn,qo,qp,qq,qr,qs,reduceIte,reduceCtorEq])))
 refine AWpI.tbx (dst_of hnt rfl) rfl rfl rfl rfl ?_
 refine AWpI.rest tok (dst_of hnt rfl) ?_
 simp only [go_sem,qa,qb,qc,qd,qe,qf,qg,qh,qi,qj,qk,ql,qm,qn,qo,qp,qq,qr,qs,reduceIte,reduceCtorEq,List.drop_succ_cons,List.drop_zero]
 have e11:((1:Nat):Int) - 1=0:=rfl
 repeat' (first|refine hR 5 4 _ _ _ (dst_of hnt rfl) ?_|refine vS fun K hK=>?_|refine hK _ ?_;clear hK K|((first|refine vR tok (by rw [hnt];rfl) ?_|(refine runS_c [0] (cS) rfl ?_ ?_ ?_))<;>(try simp only [go_sem,qa,qb,qc,qd,qe,qf,qg,qh,qi,qj,qk,ql,qm,qn,qo,qp,qq,qr,qs,reduceIte,reduceCtorEq,h1,e11])))
 all_goals try (first|omega|(unfold Big;omega)|(rw [u8m];omega)|(rw [u8M];omega)|(simp only [dA,dB,dC];omega))
 simp only [go_sem,qa,qb,qc,qd,qe,qf,qg,qh,qi,qj,qk,ql,qm,qn,qo,qp,qq,qr,qs,reduceIte,reduceCtorEq,List.take_succ_cons,List.take_zero,List.length_cons,List.length_nil,List.drop_succ_cons,List.drop_zero]
 repeat' (first|refine bL ?_|refine Fits.of ?_ ?_|refine And.intro ?_ ?_|clear hK K)
 all_goals try (first|omega|(unfold Big;omega)|(rw [u8m];omega)|(rw [u8M];omega)|(simp only [dA,dB,dC];omega))
 refine AWpI.slice0 tok (dst_of hnt rfl) rfl rfl rfl rfl (by decide) rfl rfl rfl rfl rfl (f:=fun _ _=>.v (.int .i64 0)) ?_
 refine AWpI.rest tok (dst_of hnt rfl) ?_
 simp only [go_sem,qa,qb,qc,qd,qe,qf,qg,qh,qi,qj,qk,ql,qm,qn,qo,qp,qq,qr,qs,reduceIte,reduceCtorEq,List.drop_succ_cons,List.drop_zero]
 repeat' (first|refine hK _ ?_;clear hK K|refine vB ?_)
 all_goals try (first|omega|(unfold Big;omega)|(rw [u8m];omega)|(rw [u8M];omega)|(simp only [dA,dB,dC];omega))
 refine AWp.le (s':=⟨[(3,.o (.c (.ptr 21 0 0 0))),(20,.o (I 0)),(21,.o (I 0))],[(0,.glob 0 (.int .i64 m)),(1,.glob 1 (.iface 268 (.pointer (some ad)))),(2,.glob 7 e7),(3,.glob 8 e8)]++runH2 Two.new [] 0,24⟩) ?_ ?_
 · refine vL hk0 [] ?_;simp only [go_sem,qa,qb,qc,qd,qe,qf,qg,qh,qi,qj,qk,ql,qm,qn,qo,qp,qq,qr,qs,reduceIte,reduceCtorEq,bldC,List.isEmpty_nil,Bool.not_true]
   all_goals first|rfl|omega
 have cG:=fun z=>String_call (T:=39) (o:=1) (r:=2) (k:=3) (z:=z) (cl:=[.ptr 1 0 0 0,bldC 1 0 (!(([]:Str)++(Two.new.a.text++Two.new.b.text)).isEmpty),.sl 2 1 0 (([]:Str)++(Two.new.a.text++Two.new.b.text)).length]) (l:=([]:Str)++(Two.new.a.text++Two.new.b.text)) hne (by decide) rfl
 refine AWp.loopN 1 fun L hL=>?_
 repeat' (first|refine vS fun K hK=>?_|refine hK _ ?_;clear hK K|refine hY ?_;clear hX hY X Y|refine hL _ _ ?_|((first|refine vR tok (by rw [hnt];rfl) ?_|refine vC fun X Y hX hY=>?_|refine vE ?_|refine vT ?_|refine vF [] ?_|(refine runS_at [4,5,6,7,8,9,10,11,12,13,14,15,16,17,18,19,20,21,23] (cT) rfl ?_ ?_ (fun z1 y1=>?_))|(refine runS_c [21,4,24] ((cG z1)) rfl ?_ ?_ ?_))<;>(try simp only [go_sem,qa,qb,qc,qd,qe,qf,qg,qh,qi,qj,qk,ql,qm,qn,qo,qp,qq,qr,qs,reduceIte,reduceCtorEq]))|clear hK K|clear hL L)
 all_goals try (first|omega|(unfold Big;omega)|(rw [u8m];omega)|(rw [u8M];omega)|(simp only [dA,dB,dC];omega))
theorem iLinesRun_ok (s:Str) (m:Int) (ad:Addr) (e7 e8:Value) (hs:s.length≤2000000) (h7:∃ te pe,e7=.iface te pe) (h8:∃ te pe,e8=.iface te pe) :
   Call Tryz.prog 14 [U s] (GL m (.iface 268 (.pointer (some ad))) e7 e8) 4 (.o (U (linesT s))) (GL m (.iface 268 (.pointer (some ad))) e7 e8) 4:=by
 by_cases h:s.length≤600
 · by_cases h1:(cut 10 s).length=1
   · exact iLinesRun_none s m ad e7 e8 h h7 h8 h1
   · have:=cut_len 10 s
     exact iLinesRun_short s m ad e7 e8 h (by omega) h7 h8
 · exact iLinesRun_long s m ad e7 e8 hs h
end Go.Hw
namespace Go.Hw
open Go.Proofs
attribute [local irreducible] Fits
theorem sLinesRun_ok (s:Str) (hs:s.length≤2000000):Call Tryz.prog 15 [U s] [] 0 (.o (U (linesT s))) [] 0:=by
 by_cases h:s.length≤600
 · exact LinesRun_short s h
 · exact LinesRun_long s (by omega) (by omega)
theorem FnExactLinesRun_ok (s:Str) (m:Int) (ad:Addr) (e7 e8:Value) (h7:∃ te pe,e7=.iface te pe) (h8:∃ te pe,e8=.iface te pe) (hs:s.length≤1048576) :
   Call Tryz.prog 6 [U s] (GL m (.iface 268 (.pointer (some ad))) e7 e8) 4 (.o (BB true)) (GL m (.iface 268 (.pointer (some ad))) e7 e8) 4:=by
 have c1:=sLinesRun_ok s (by omega)
 have c2:=iLinesRun_ok s m ad e7 e8 (by omega) h7 h8
 have h':¬ (1048576:Int) < s.length:=by omega
 refine vO tok Tryz.func6 rfl rfl Tryz.ntmps6 Tryz.results6 rfl (by decide) (fun cx hnt hk0=>?_)
 repeat' (first|refine vS fun K hK=>?_|refine hK _ ?_;clear hK K|refine hY ?_;clear hX hY X Y|((first|refine vR tok (by rw [hnt];rfl) ?_|refine vC fun X Y hX hY=>?_|refine vK ?_|refine vT ?_|refine vF [] ?_|refine runS_c [] (c1) rfl ?_ ?_ ?_|(refine runS_c [0,1,2,3] (c2) rfl ?_ ?_ ?_))<;>(try simp only [go_sem,qa,qb,qc,qd,qe,qf,qg,qh,qi,qj,qk,ql,qm,qn,qo,qp,qq,qr,qs,reduceIte,reduceCtorEq,h'])))
 all_goals first|(first|omega|(unfold Big;omega)|(rw [u8m];omega)|(rw [u8M];omega)|(simp only [dA,dB,dC];omega))|omega
theorem FnExactLinesRun_long (s:Str) (m:Int) (ad:Addr) (e7 e8:Value) (hs:1048576 < s.length) (h2:(s.length:Int)≤9223372036854775807) :
   Call Tryz.prog 6 [U s] (GL m (.iface 268 (.pointer (some ad))) e7 e8) 4 (.o (BB true)) (GL m (.iface 268 (.pointer (some ad))) e7 e8) 4:=by
 have h':(1048576:Int) < s.length:=by omega
 refine vO tok Tryz.func6 rfl rfl Tryz.ntmps6 Tryz.results6 rfl (by decide) (fun cx hnt hk0=>?_)
 repeat' (first|refine vS fun K hK=>?_|refine hK _ ?_;clear hK K|refine hX ?_;clear hX hY X Y|((first|refine vR tok (by rw [hnt];rfl) ?_|refine vC fun X Y hX hY=>?_|refine vT ?_|(refine vF [] ?_))<;>(try simp only [go_sem,qa,qb,qc,qd,qe,qf,qg,qh,qi,qj,qk,ql,qm,qn,qo,qp,qq,qr,qs,reduceIte,reduceCtorEq,h'])))
 all_goals first|(first|omega|(unfold Big;omega)|(rw [u8m];omega)|(rw [u8M];omega)|(simp only [dA,dB,dC];omega))|omega
theorem FnExactLinesRun_all (s:Str) (m:Int) (ad:Addr) (e7 e8:Value) (h7:∃ te pe,e7=.iface te pe) (h8:∃ te pe,e8=.iface te pe) (h2:(s.length:Int)≤9223372036854775807) :
   Call Tryz.prog 6 [U s] (GL m (.iface 268 (.pointer (some ad))) e7 e8) 4 (.o (BB true)) (GL m (.iface 268 (.pointer (some ad))) e7 e8) 4:=by
 by_cases h:s.length≤1048576
 · exact FnExactLinesRun_ok s m ad e7 e8 h7 h8 h
 · exact FnExactLinesRun_long s m ad e7 e8 (by omega) h2
end Go.Hw
