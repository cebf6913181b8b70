/- What is proved here: parts of the walk of the law and of its plain side; no condition but those that each theorem states. -/
import Derived.Test.YtjhcbnnochohpaaPD1
import Derived.Test.YtjhcbnnochohpaaPE1
import Derived.Test.YtjhcbnnochohpaaPS1
import Derived.Test.YtjhcbnnochohpaaPS3
import Derived.Ground.Names2Prog
import Derived.Shelf.Slices.SearchI
import Derived.Shelf.Slices.Empties
import Derived.Shelf.Spec.SlicesInsert
import Derived.Shelf.Spec.SlicesInsertGrow
import Derived.Below
set_option linter.all false
set_option maxRecDepth 100000
set_option maxHeartbeats 16000000
open Int renaming reduceToNat→qk,reduceAdd→ql,reduceSub→qm,reduceNeg→qn,reduceLT→qo,reduceLE→qp,reduceEq→qq,reduceBEq→qr,reduceBNe→qs
open Nat renaming reduceDiv→qa,reduceMod→qb,reduceAdd→qc,reduceMul→qd,reduceSub→qe,reduceLeDiff→qf,reduceBEq→qg,reduceEqDiff→qh,reduceBeqDiff→qi,reduceLT→qj
open Go.Hw renaming runG_split→gR,condG_split→gC,takG_split→gT,effG_split→gE
open Go.Hw.AWp renaming region→vR,seq→vS,cond'→vC,block→vB,skip→vK,ret→vT,exit→vE
open Go.Hw.Fin renaming auto→vF
open Go.Hw.SLe renaming auto→vL
open Go.Hw.CallX renaming of→vO
namespace Go.Hw
open Go.Proofs
theorem l71Packet_ok (l:List Int) (p:Int) (hl:Bytes l) (h0:0≤p) (h9:p≤900000):CallX (α:=Packet × Int) Try.prog 53 [.c (.ptr 0 0 0 0)] (rdH l p 0) 1 (fun x=>p≤x.2∧x.2≤p+20) (fun x=>.o x.1.av) (fun x=>rdH l x.2 0) 1:=by
 refine vO tok Try.func53 rfl rfl Try.ntmps53 Try.results53 rfl (by decide) (fun cx hnt hk0=>?_)
 repeat' (first|refine vS fun K hK=>?_|refine hK _ ?_;clear hK K|refine hX ?_;clear hX hY X Y|refine hY ?_;clear hX hY X Y|refine vB ?_|((first|refine vR tok (by rw [hnt];rfl) ?_|refine vC fun X Y hX hY=>?_|refine vK ?_|refine vT ?_|refine runS_pick l hl rfl ?_ ?_ ?_ (fun x hx=>?_)|(apply gC<;>intro hq<;>(try simp only [nT,nF,n1,n0] at hq)<;>(have hb:=hq)<;>(try simp only [dT,dF,eT,eF] at hb)<;>first|(exfalso;omega)|((try simp only [hq]);clear hq)))<;>(try simp only [go_sem,qa,qb,qc,qd,qe,qf,qg,qh,qi,qj,qk,ql,qm,qn,qo,qp,qq,qr,qs,reduceIte,reduceCtorEq]))|refine Fits.of ?_ ?_|refine aE ?_ fun hp=>?_|refine And.intro ?_ ?_|clear hK K)
 all_goals try omega
 all_goals try (
   (apply Exists.intro ((⟨_,_,_,_,_,_,_⟩,_));apply And.intro;rotate_left;focus (refine vF [] ?_;simp only [go_sem,qa,qb,qc,qd,qe,qf,qg,qh,qi,qj,qk,ql,qm,qn,qo,qp,qq,qr,qs,reduceIte,reduceCtorEq];first|rfl|refine ⟨?_,?_⟩<;>rfl|(repeat' (apply And.intro))<;>first|rfl|trivial);try dsimp only)
   omega)
def mEs:Nat→List Int→List MapEntry
 | _,[]=>[]
 | i,v ::r=>{ key:=.int .i64 ((i:Int)+1),val:=.int .i64 v,born:=i } ::mEs (i+1) r
def mE (l:List Int):Array MapEntry:=⟨mEs 0 l⟩
abbrev mapO (l:List Int):AObj:=.raw (.map (mE l) l.length)
@[go_sem] theorem mE_nil:AObj.raw (.map #[] 0)=mapO []:=rfl
@[go_sem] theorem mE_list (l:List Int):(mE l).toList=mEs 0 l:=rfl
@[go_sem] theorem mE_keys (i:Nat) (l:List Int):intKeys (mEs i l)=true:=by
 induction l generalizing i with
 | nil=>rfl
 | cons v r ih=>simpa [mEs,intKeys,isI64] using ih (i+1)
theorem fdI_mEs (k:Int) (l:List Int) (i j:Nat):fdI k (mEs i l) j=if (i:Int)+1≤k∧k≤i+l.length then some (j+(k - i - 1).toNat,.int .i64 (l.getD (k - i - 1).toNat 0)) else none:=by
 induction l generalizing i j with
 | nil=>simp only [mEs,fdI,List.length_nil];rw [if_neg (by omega)]
 | cons v r ih =>
   simp only [mEs,fdI,List.length_cons]
   by_cases h:k=(i:Int)+1
   · subst h
     rw [if_pos (by omega)]
     have:((i:Int)+1 - i - 1).toNat=0:=by omega
     simp [this]
   · simp only [h,decide_false,cond_false]
     rw [ih]
     by_cases h2:(i:Int)+1≤k∧k≤i+(r.length+1:Nat)
     · rw [if_pos (by omega),if_pos h2]
       have e:(k - i - 1).toNat=(k - (i+1:Nat) - 1).toNat+1:=by omega
       rw [e,List.getD_cons_succ]
       have e2:j+1+(k - (i+1:Nat) - 1).toNat=j+((k - (i+1:Nat) - 1).toNat+1):=by omega
       rw [e2]
     · rw [if_neg (by omega),if_neg h2]
theorem some_mE {l:List Int} {k:Int} (h1:1≤k) (h2:k≤l.length):(fdI k (mEs 0 l) 0).isSome=true:=by
 rw [fdI_mEs,if_pos (by omega)];rfl
theorem lk_mE {l:List Int} {k:Int} (h1:1≤k) (h2:k≤l.length):lkI k (mEs 0 l)=l.getD (k - 1).toNat 0:=by
 unfold lkI
 rw [fdI_mEs,if_pos (by omega)]
 have:(k - (0:Nat) - 1).toNat=(k - 1).toNat:=by omega
 rw [this]
theorem mEs_set (l:List Int) (n i:Nat) (v:Int) (h:n < l.length):(mEs i l).modify n (fun e=>{ e with key:=.int .i64 ((i+n:Nat)+1),val:=.int .i64 v })=mEs i (l.set n v):=by
 induction l generalizing n i with
 | nil=>simp at h
 | cons w r ih =>
   cases n with
   | zero=>simp [mEs]
   | succ n =>
     have:=ih n (i+1) (by simpa using h)
     simp only [mEs,List.modify_succ_cons,List.set_cons_succ]
     rw [← this]
     have e:i+(n+1)=i+1+n:=by omega
     rw [e]
theorem upd_mE {l:List Int} {k v:Int} (h1:1≤k) (h2:k≤l.length):updM (mE l) l.length k v=.map (mE (l.set (k - 1).toNat v)) l.length:=by
 unfold updM
 rw [mE_list,fdI_mEs,if_pos (by omega)]
 have e:0+(k - (0:Nat) - 1).toNat=(k - 1).toNat:=by omega
 rw [e]
 have:=mEs_set l (k - 1).toNat 0 v (by omega)
 show Obj.map ((mE l).modify _ _) _=_
 congr 1
 apply Array.ext'
 rw [Array.toList_modify,mE_list,mE_list,← this]
 congr 1
 funext e
 have:((0+(k - 1).toNat:Nat):Int)+1=k:=by omega
 rw [this]
theorem upd_mE_new {l:List Int} {k v:Int} (h:k=l.length+1):updM (mE l) l.length k v=.map (mE (l++[v])) (l.length+1):=by
 unfold updM
 rw [mE_list,fdI_mEs,if_neg (by omega)]
 show Obj.map ((mE l).push _) _=_
 congr 1
 apply Array.ext'
 rw [Array.toList_push,mE_list,mE_list,h]
 have:∀ (l:List Int) (i:Nat),mEs i (l++[v])=mEs i l++[{ key:=.int .i64 ((i+l.length:Nat)+1),val:=.int .i64 v,born:=i+l.length }]:=by
   intro l
   induction l with
   | nil=>intro i;simp [mEs]
   | cons w r ih =>
     intro i
     simp only [List.cons_append,mEs,ih,List.length_cons]
     have e:i+1+r.length=i+(r.length+1):=by omega
     rw [e]
 rw [this];simp
@[go_sem] theorem upd_m0 (a:Int):updM (mE []) 0 1 a=.map (mE [a]) 1:=upd_mE_new (l:=[]) rfl
@[go_sem] theorem upd_m1 (a b:Int):updM (mE [a]) 1 2 b=.map (mE [a,b]) 2:=upd_mE_new (l:=[a]) rfl
@[go_sem] theorem upd_m2 (a b c:Int):updM (mE [a,b]) 2 3 c=.map (mE [a,b,c]) 3:=upd_mE_new (l:=[a,b]) rfl
@[go_sem] theorem lk_m1 (a b c:Int):lkI 1 (mEs 0 [a,b,c])=a:=lk_mE (l:=[a,b,c]) (by omega) (by simp)
@[go_sem] theorem lk_m2 (a b c:Int):lkI 2 (mEs 0 [a,b,c])=b:=lk_mE (l:=[a,b,c]) (by omega) (by simp)
@[go_sem] theorem lk_m3 (a b c:Int):lkI 3 (mEs 0 [a,b,c])=c:=lk_mE (l:=[a,b,c]) (by omega) (by simp)
@[go_sem] theorem sm_m1 (a b c:Int):(fdI 1 (mEs 0 [a,b,c]) 0).isSome=true:=some_mE (l:=[a,b,c]) (by omega) (by simp)
@[go_sem] theorem sm_m2 (a b c:Int):(fdI 2 (mEs 0 [a,b,c]) 0).isSome=true:=some_mE (l:=[a,b,c]) (by omega) (by simp)
@[go_sem] theorem sm_m3 (a b c:Int):(fdI 3 (mEs 0 [a,b,c]) 0).isSome=true:=some_mE (l:=[a,b,c]) (by omega) (by simp)
@[go_sem] theorem row3_0 (x y z v:Int):rowSet (fI [x,y,z]) 0 0 [.t (.v (.int .i64 v))]=fI [v,y,z]:=rowSet_fI (by simp)
@[go_sem] theorem row3_1 (x y z v:Int):rowSet (fI [x,y,z]) 1 0 [.t (.v (.int .i64 v))]=fI [x,v,z]:=rowSet_fI (by simp)
@[go_sem] theorem row3_2 (x y z v:Int):rowSet (fI [x,y,z]) 2 0 [.t (.v (.int .i64 v))]=fI [x,y,v]:=rowSet_fI (by simp)
@[go_sem] theorem rep3 (v:Int):fI (List.replicate 3 v)=fI [v,v,v]:=rfl
theorem userOk_ok (n:Int):Call Try.prog 120 [I n] [] 0 (.o (BB (In n 1 3))) [] 0:=by
 refine vO tok Try.func120 rfl rfl Try.ntmps120 Try.results120 rfl (by decide) (fun cx hnt hk0=>?_)
 repeat' (first|refine vS fun K hK=>?_|refine hK _ ?_;clear hK K|((first|refine vR tok (by rw [hnt];rfl) ?_|refine vT ?_|refine vF [] ?_|(apply gR<;>intro hq<;>(try simp only [nT,nF,n1,n0] at hq)<;>(have hb:=hq)<;>(try simp only [dT,dF,eT,eF] at hb)<;>first|(exfalso;omega)|((try simp only [hq]);clear hq)))<;>(try simp only [go_sem,qa,qb,qc,qd,qe,qf,qg,qh,qi,qj,qk,ql,qm,qn,qo,qp,qq,qr,qs,reduceIte,reduceCtorEq])))
 all_goals simp [In, *]
theorem ownCoins_ok (n:Int):Call Try.prog 136 [.g [.mp 0,.mp 1,ci n]] [] 2 (.o (.c (.mp 0))) [] 2:=by
 refine vO tok Try.func136 rfl rfl Try.ntmps136 Try.results136 rfl (by decide) (fun cx hnt hk0=>?_)
 repeat' (first|refine vS fun K hK=>?_|refine hK _ ?_;clear hK K|((first|refine vR tok (by rw [hnt];rfl) ?_|refine vT ?_|(refine vF [] ?_))<;>(try simp only [go_sem,qa,qb,qc,qd,qe,qf,qg,qh,qi,qj,qk,ql,qm,qn,qo,qp,qq,qr,qs,reduceIte,reduceCtorEq])))
theorem noteCoins_ok (n:Int):Call Try.prog 137 [.g [.mp 0,.mp 1,ci n]] [] 2 (.o (.c (.mp 1))) [] 2:=by
 refine vO tok Try.func137 rfl rfl Try.ntmps137 Try.results137 rfl (by decide) (fun cx hnt hk0=>?_)
 repeat' (first|refine vS fun K hK=>?_|refine hK _ ?_;clear hK K|((first|refine vR tok (by rw [hnt];rfl) ?_|refine vT ?_|(refine vF [] ?_))<;>(try simp only [go_sem,qa,qb,qc,qd,qe,qf,qg,qh,qi,qj,qk,ql,qm,qn,qo,qp,qq,qr,qs,reduceIte,reduceCtorEq])))
theorem coinsOf_own (kind:Int) (h:kind=1):Call Try.prog 121 [I kind] [] 0 (.tup [.c (.t (.v (.func (.func 136) #[] #[]))),BB true]) [] 0:=by
 refine vO tok Try.func121 rfl rfl Try.ntmps121 Try.results121 rfl (by decide) (fun cx hnt hk0=>?_)
 repeat' (first|refine vS fun K hK=>?_|refine hK _ ?_;clear hK K|refine hX ?_;clear hX hY X Y|refine vB ?_|((first|refine vR tok (by rw [hnt];rfl) ?_|refine vC fun X Y hX hY=>?_|refine vT ?_|refine vF [] ?_|(apply gC<;>intro hq<;>(try simp only [nT,nF,n1,n0] at hq)<;>(have hb:=hq)<;>(try simp only [dT,dF,eT,eF] at hb)<;>first|(exfalso;omega)|((try simp only [hq]);clear hq)))<;>(try simp only [go_sem,qa,qb,qc,qd,qe,qf,qg,qh,qi,qj,qk,ql,qm,qn,qo,qp,qq,qr,qs,reduceIte,reduceCtorEq])))
theorem coinsOf_note (kind:Int) (h:kind=2):Call Try.prog 121 [I kind] [] 0 (.tup [.c (.t (.v (.func (.func 137) #[] #[]))),BB true]) [] 0:=by
 refine vO tok Try.func121 rfl rfl Try.ntmps121 Try.results121 rfl (by decide) (fun cx hnt hk0=>?_)
 repeat' (first|refine vS fun K hK=>?_|refine hK _ ?_;clear hK K|refine hX ?_;clear hX hY X Y|refine hY ?_;clear hX hY X Y|refine vB ?_|((first|refine vR tok (by rw [hnt];rfl) ?_|refine vC fun X Y hX hY=>?_|refine vT ?_|refine vF [] ?_|(apply gC<;>intro hq<;>(try simp only [nT,nF,n1,n0] at hq)<;>(have hb:=hq)<;>(try simp only [dT,dF,eT,eF] at hb)<;>first|(exfalso;omega)|((try simp only [hq]);clear hq)))<;>(try simp only [go_sem,qa,qb,qc,qd,qe,qf,qg,qh,qi,qj,qk,ql,qm,qn,qo,qp,qq,qr,qs,reduceIte,reduceCtorEq])))
theorem coinsOf_none (kind:Int) (h:In kind 1 2=false):Call Try.prog 121 [I kind] [] 0 (.tup [.c (.t (.v .nilFunc)),BB false]) [] 0:=by
 have h':¬ (1≤kind∧kind≤2):=by rw [← In_iff,h];simp
 refine vO tok Try.func121 rfl rfl Try.ntmps121 Try.results121 rfl (by decide) (fun cx hnt hk0=>?_)
 repeat' (first|refine vS fun K hK=>?_|refine hK _ ?_;clear hK K|refine hY ?_;clear hX hY X Y|refine vB ?_|((first|refine vR tok (by rw [hnt];rfl) ?_|refine vC fun X Y hX hY=>?_|refine vK ?_|refine vT ?_|refine vF [] ?_|(apply gC<;>intro hq<;>(try simp only [nT,nF,n1,n0] at hq)<;>(have hb:=hq)<;>(try simp only [dT,dF,eT,eF] at hb)<;>first|(exfalso;omega)|((try simp only [hq]);clear hq)))<;>(try simp only [go_sem,qa,qb,qc,qd,qe,qf,qg,qh,qi,qj,qk,ql,qm,qn,qo,qp,qq,qr,qs,reduceIte,reduceCtorEq])))
theorem amountMap_ok (a b c:Int):Call Try.prog 138 [.c (.t (intsT [a,b,c]))] [] 0 (.o (.c (.mp 0))) [(0,mapO [a,b,c])] 1:=by
 refine vO tok Try.func138 rfl rfl Try.ntmps138 Try.results138 rfl (by decide) (fun cx hnt hk0=>?_)
 repeat' (first|refine vS fun K hK=>?_|refine hK _ ?_;clear hK K|refine vB ?_|((refine vR tok (by rw [hnt];rfl) ?_)<;>(try simp only [go_sem,qa,qb,qc,qd,qe,qf,qg,qh,qi,qj,qk,ql,qm,qn,qo,qp,qq,qr,qs,reduceIte,reduceCtorEq])))
 refine AWp.loopN 4 fun L hL=>?_
 repeat' (first|refine vS fun K hK=>?_|refine hK _ ?_;clear hK K|refine hX ?_;clear hX hY X Y|refine hY ?_;clear hX hY X Y|refine vB ?_|refine hL _ _ ?_|((first|refine vR tok (by rw [hnt];rfl) ?_|refine vC fun X Y hX hY=>?_|refine vK ?_|refine vE ?_|refine vT ?_|(refine vF [] ?_))<;>(try simp only [go_sem,qa,qb,qc,qd,qe,qf,qg,qh,qi,qj,qk,ql,qm,qn,qo,qp,qq,qr,qs,reduceIte,reduceCtorEq]))|refine Fits.of ?_ ?_|(refine aL ?_ (fun hp=>?_)<;>((try simp only [rowSet_fI hp,rowSet_fI2 hp]);(try simp only [rowSet_fB hp])))|refine And.intro ?_ ?_|clear hK K|clear hL L)
 all_goals try omega
theorem amountList_ok (a b c:Int):Call Try.prog 139 [.c (.mp 0)] [(0,mapO [a,b,c])] 1 (.o (.c (.sl 1 1 0 3))) [(0,mapO [a,b,c]),(1,rI [a,b,c])] 2:=by
 refine vO tok Try.func139 rfl rfl Try.ntmps139 Try.results139 rfl (by decide) (fun cx hnt hk0=>?_)
 repeat' (first|refine vS fun K hK=>?_|refine hK _ ?_;clear hK K|refine vB ?_|((refine vR tok (by rw [hnt];rfl) ?_)<;>(try simp only [go_sem,qa,qb,qc,qd,qe,qf,qg,qh,qi,qj,qk,ql,qm,qn,qo,qp,qq,qr,qs,reduceIte,reduceCtorEq])))
 refine AWp.loopN 4 fun L hL=>?_
 repeat' (first|refine vS fun K hK=>?_|refine hK _ ?_;clear hK K|refine hX ?_;clear hX hY X Y|refine hY ?_;clear hX hY X Y|refine vB ?_|refine hL _ _ ?_|((first|refine vR tok (by rw [hnt];rfl) ?_|refine vC fun X Y hX hY=>?_|refine vK ?_|refine vE ?_|refine vT ?_|(refine vF [] ?_))<;>(try simp only [go_sem,qa,qb,qc,qd,qe,qf,qg,qh,qi,qj,qk,ql,qm,qn,qo,qp,qq,qr,qs,reduceIte,reduceCtorEq]))|refine Fits.of ?_ ?_|(refine aL ?_ (fun hp=>?_)<;>((try simp only [rowSet_fI hp,rowSet_fI2 hp]);(try simp only [rowSet_fB hp])))|refine And.intro ?_ ?_|clear hK K|clear hL L)
 all_goals try omega
def pl_len30:Plan:=(.tak 0 (.tak 1 (.tak 3 (.tak 4 (.tak 6 (.tak 7 (.all (.cons 2 (.all (.cons 5 (.all (.cons 8 (.all (.cons 9 .done .nil)) .nil)) .nil)) .nil))))))))
attribute [go_sem] pl_len30
theorem len3 {l:List Int} (h:l.length=3):∃ a b c,l=[a,b,c]:=by
 match l,h with
 | [a,b,c],_=>exact ⟨a,b,c,rfl⟩
theorem parts3 (a b c:Int):parts [a,b,c]=(In a 0 30 && (In b 0 30 && In c 0 30)):=by
 simp [parts,rall,List.range,List.range.loop]
theorem isum3' (a b c:Int):isum [a,b,c]=a+b+c:=by simp [isum]
theorem amountMap_l (l:List Int) (h:l.length=3):Call Try.prog 138 [.c (.t (intsT l))] [] 0 (.o (.c (.mp 0))) [(0,mapO l)] 1:=by
 obtain ⟨a,b,c,rfl⟩:=len3 h
 exact amountMap_ok a b c
theorem amountList_l (l:List Int) (h:l.length=3):Call Try.prog 139 [.c (.mp 0)] [(0,mapO l)] 1 (.o (.c (.sl 1 1 0 l.length))) [(0,mapO l),(1,rI l)] 2:=by
 obtain ⟨a,b,c,rfl⟩:=len3 h
 exact amountList_ok a b c
theorem amountTotal_ok (l:List Int) (hn:(l.length:Int) < 1099511627776):Call Try.prog 90 [.c (.t (intsT l))] [] 0 (.tup [I (if parts l then isum l else 0),BB (parts l)]) [] 0:=by
 by_cases h3:l.length=3
 · obtain ⟨a,b,c,rfl⟩:=len3 h3
   rw [parts3,isum3']
   by_cases h1:In a 0 30=true
   · by_cases h2:In b 0 30=true
     · by_cases h3:In c 0 30=true
       · rw [In_iff] at h1 h2 h3
         have e:(In a 0 30 && (In b 0 30 && In c 0 30))=true:=by simp [In];omega
         rw [e]
         refine vO tok Try.func90 rfl rfl Try.ntmps90 Try.results90 rfl (by decide) (fun cx hnt hk0=>?_)
         repeat' (first|refine vS fun K hK=>?_|refine hK _ ?_;clear hK K|refine hY ?_;clear hX hY X Y|refine vB ?_|((first|refine vR tok (by rw [hnt];rfl) ?_|refine vC fun X Y hX hY=>?_|(refine vK ?_))<;>(try simp only [go_sem,qa,qb,qc,qd,qe,qf,qg,qh,qi,qj,qk,ql,qm,qn,qo,qp,qq,qr,qs,reduceIte,reduceCtorEq])))
         refine AWp.loopN 4 fun L hL=>?_
         repeat' (first|refine vS fun K hK=>?_|refine hK _ ?_;clear hK K|refine hX ?_;clear hX hY X Y|refine hY ?_;clear hX hY X Y|refine vB ?_|refine hL _ _ ?_|((first|refine vR tok (by rw [hnt];rfl) ?_|refine vC fun X Y hX hY=>?_|refine vK ?_|refine vE ?_|refine vT ?_|refine vF [] ?_|((first|apply gR|apply gC)<;>intro hq<;>(try simp only [nT,nF,n1,n0] at hq)<;>(have hb:=hq)<;>(try simp only [dT,dF,eT,eF] at hb)<;>first|(exfalso;omega)|((try simp only [hq]);clear hq)))<;>(try simp only [go_sem,qa,qb,qc,qd,qe,qf,qg,qh,qi,qj,qk,ql,qm,qn,qo,qp,qq,qr,qs,reduceIte,reduceCtorEq]))|refine Fits.of ?_ ?_|(refine aL ?_ (fun hp=>?_)<;>((try simp only [rowSet_fI hp,rowSet_fI2 hp]);(try simp only [rowSet_fB hp])))|refine And.intro ?_ ?_|clear hK K|clear hL L)
         all_goals try omega
         all_goals try (simp;omega)
       · have e:(In a 0 30 && (In b 0 30 && In c 0 30))=false:=by simp [h3]
         rw [e]
         rw [In_iff] at h1 h2 h3
         refine vO tok Try.func90 rfl rfl Try.ntmps90 Try.results90 rfl (by decide) (fun cx hnt hk0=>?_)
         repeat' (first|refine vS fun K hK=>?_|refine hK _ ?_;clear hK K|refine hY ?_;clear hX hY X Y|refine vB ?_|((first|refine vR tok (by rw [hnt];rfl) ?_|refine vC fun X Y hX hY=>?_|(refine vK ?_))<;>(try simp only [go_sem,qa,qb,qc,qd,qe,qf,qg,qh,qi,qj,qk,ql,qm,qn,qo,qp,qq,qr,qs,reduceIte,reduceCtorEq])))
         refine AWp.loopN 4 fun L hL=>?_
         repeat' (first|refine vS fun K hK=>?_|refine hK _ ?_;clear hK K|refine hX ?_;clear hX hY X Y|refine hY ?_;clear hX hY X Y|refine vB ?_|refine hL _ _ ?_|((first|refine vR tok (by rw [hnt];rfl) ?_|refine vC fun X Y hX hY=>?_|refine vK ?_|refine vT ?_|refine vF [] ?_|((first|apply gR|apply gC)<;>intro hq<;>(try simp only [nT,nF,n1,n0] at hq)<;>(have hb:=hq)<;>(try simp only [dT,dF,eT,eF] at hb)<;>first|(exfalso;omega)|((try simp only [hq]);clear hq)))<;>(try simp only [go_sem,qa,qb,qc,qd,qe,qf,qg,qh,qi,qj,qk,ql,qm,qn,qo,qp,qq,qr,qs,reduceIte,reduceCtorEq]))|refine Fits.of ?_ ?_|(refine aL ?_ (fun hp=>?_)<;>((try simp only [rowSet_fI hp,rowSet_fI2 hp]);(try simp only [rowSet_fB hp])))|refine And.intro ?_ ?_|clear hK K|clear hL L)
         all_goals try omega
         all_goals try (simp;omega)
     · have e:(In a 0 30 && (In b 0 30 && In c 0 30))=false:=by simp [h2]
       rw [e]
       rw [In_iff] at h1 h2
       refine vO tok Try.func90 rfl rfl Try.ntmps90 Try.results90 rfl (by decide) (fun cx hnt hk0=>?_)
       repeat' (first|refine vS fun K hK=>?_|refine hK _ ?_;clear hK K|refine hY ?_;clear hX hY X Y|refine vB ?_|((first|refine vR tok (by rw [hnt];rfl) ?_|refine vC fun X Y hX hY=>?_|(refine vK ?_))<;>(try simp only [go_sem,qa,qb,qc,qd,qe,qf,qg,qh,qi,qj,qk,ql,qm,qn,qo,qp,qq,qr,qs,reduceIte,reduceCtorEq])))
       refine AWp.loopN 4 fun L hL=>?_
       repeat' (first|refine vS fun K hK=>?_|refine hK _ ?_;clear hK K|refine hX ?_;clear hX hY X Y|refine hY ?_;clear hX hY X Y|refine vB ?_|refine hL _ _ ?_|((first|refine vR tok (by rw [hnt];rfl) ?_|refine vC fun X Y hX hY=>?_|refine vK ?_|refine vT ?_|refine vF [] ?_|((first|apply gR|apply gC)<;>intro hq<;>(try simp only [nT,nF,n1,n0] at hq)<;>(have hb:=hq)<;>(try simp only [dT,dF,eT,eF] at hb)<;>first|(exfalso;omega)|((try simp only [hq]);clear hq)))<;>(try simp only [go_sem,qa,qb,qc,qd,qe,qf,qg,qh,qi,qj,qk,ql,qm,qn,qo,qp,qq,qr,qs,reduceIte,reduceCtorEq]))|refine Fits.of ?_ ?_|(refine aL ?_ (fun hp=>?_)<;>((try simp only [rowSet_fI hp,rowSet_fI2 hp]);(try simp only [rowSet_fB hp])))|refine And.intro ?_ ?_|clear hK K|clear hL L)
       all_goals try omega
       all_goals try (simp;omega)
   · have e:(In a 0 30 && (In b 0 30 && In c 0 30))=false:=by simp [h1]
     rw [e]
     rw [In_iff] at h1
     refine vO tok Try.func90 rfl rfl Try.ntmps90 Try.results90 rfl (by decide) (fun cx hnt hk0=>?_)
     repeat' (first|refine vS fun K hK=>?_|refine hK _ ?_;clear hK K|refine hY ?_;clear hX hY X Y|refine vB ?_|((first|refine vR tok (by rw [hnt];rfl) ?_|refine vC fun X Y hX hY=>?_|(refine vK ?_))<;>(try simp only [go_sem,qa,qb,qc,qd,qe,qf,qg,qh,qi,qj,qk,ql,qm,qn,qo,qp,qq,qr,qs,reduceIte,reduceCtorEq])))
     refine AWp.loopN 4 fun L hL=>?_
     repeat' (first|refine vS fun K hK=>?_|refine hK _ ?_;clear hK K|refine hX ?_;clear hX hY X Y|refine vB ?_|refine hL _ _ ?_|((first|refine vR tok (by rw [hnt];rfl) ?_|refine vC fun X Y hX hY=>?_|refine vK ?_|refine vT ?_|refine vF [] ?_|((first|apply gR|apply gC)<;>intro hq<;>(try simp only [nT,nF,n1,n0] at hq)<;>(have hb:=hq)<;>(try simp only [dT,dF,eT,eF] at hb)<;>first|(exfalso;omega)|((try simp only [hq]);clear hq)))<;>(try simp only [go_sem,qa,qb,qc,qd,qe,qf,qg,qh,qi,qj,qk,ql,qm,qn,qo,qp,qq,qr,qs,reduceIte,reduceCtorEq]))|(refine aL ?_ (fun hp=>?_)<;>((try simp only [rowSet_fI hp,rowSet_fI2 hp]);(try simp only [rowSet_fB hp])))|clear hK K|clear hL L)
     all_goals try omega
     all_goals try (simp;omega)
 · have e:parts l=false:=by
     cases hp:parts l with
     | false=>rfl
     | true=>exact absurd (parts_len hp) h3
   rw [e]
   refine vO tok Try.func90 rfl rfl Try.ntmps90 Try.results90 rfl (by decide) (fun cx hnt hk0=>?_)
   repeat' (first|refine vS fun K hK=>?_|refine hK _ ?_;clear hK K|refine hX ?_;clear hX hY X Y|((first|refine vR tok (by rw [hnt];rfl) ?_|refine vC fun X Y hX hY=>?_|refine vT ?_|refine vF [] ?_|(apply gC<;>intro hq<;>(try simp only [nT,nF,n1,n0] at hq)<;>(have hb:=hq)<;>(try simp only [dT,dF,eT,eF] at hb)<;>first|(exfalso;omega)|((try simp only [hq]);clear hq)))<;>(try simp only [go_sem,qa,qb,qc,qd,qe,qf,qg,qh,qi,qj,qk,ql,qm,qn,qo,qp,qq,qr,qs,reduceIte,reduceCtorEq])))
   all_goals try omega
theorem iBankOk_ok (b:Bank) (hn:(b.own.length:Int) < 1099511627776) (hm:(b.notes.length:Int) < 1099511627776) (hl:b.locked < 1099511627776):Call Try.prog 60 [b.av] [] 0 (.o (BB b.ok)) [] 0:=by
 by_cases h1:parts b.own=true
 · have s1:=parts_all h1
   by_cases h2:parts b.notes=true
   · have s2:=parts_all h2
     refine vO tok Try.func60 rfl rfl Try.ntmps60 Try.results60 rfl (by decide) (fun cx hnt hk0=>?_)
     repeat' (first|refine vS fun K hK=>?_|refine hK _ ?_;clear hK K|refine hY ?_;clear hX hY X Y|((first|refine vR tok (by rw [hnt];rfl) ?_|refine vC fun X Y hX hY=>?_|refine vK ?_|refine vT ?_|refine vF [] ?_|refine runS_c [] (amountTotal_ok b.own hn) rfl ?_ ?_ ?_|refine runS_c [] (amountTotal_ok b.notes hm) rfl ?_ ?_ ?_|(apply gR<;>intro hq<;>(try simp only [nT,nF,n1,n0] at hq)<;>(have hb:=hq)<;>(try simp only [dT,dF,eT,eF] at hb)<;>first|(exfalso;omega)|((try simp only [hq]);clear hq)))<;>(try simp only [go_sem,qa,qb,qc,qd,qe,qf,qg,qh,qi,qj,qk,ql,qm,qn,qo,qp,qq,qr,qs,reduceIte,reduceCtorEq,h1,h2,if_true]))|refine Fits.of ?_ ?_|refine And.intro ?_ ?_|clear hK K)
     all_goals try omega
     all_goals (rw [Bool.eq_iff_iff];simp [Bank.ok,h1,h2];omega)
   · have h2:parts b.notes=false:=by simpa using h2
     refine vO tok Try.func60 rfl rfl Try.ntmps60 Try.results60 rfl (by decide) (fun cx hnt hk0=>?_)
     repeat' (first|refine vS fun K hK=>?_|refine hK _ ?_;clear hK K|refine hX ?_;clear hX hY X Y|refine hY ?_;clear hX hY X Y|((first|refine vR tok (by rw [hnt];rfl) ?_|refine vC fun X Y hX hY=>?_|refine vK ?_|refine vT ?_|refine vF [] ?_|refine runS_c [] (amountTotal_ok b.own hn) rfl ?_ ?_ ?_|(refine runS_c [] (amountTotal_ok b.notes hm) rfl ?_ ?_ ?_))<;>(try simp only [go_sem,qa,qb,qc,qd,qe,qf,qg,qh,qi,qj,qk,ql,qm,qn,qo,qp,qq,qr,qs,reduceIte,reduceCtorEq,h1,h2,if_true]))|clear hK K)
     all_goals simp [Bank.ok,h2]
 · have h1:parts b.own=false:=by simpa using h1
   refine vO tok Try.func60 rfl rfl Try.ntmps60 Try.results60 rfl (by decide) (fun cx hnt hk0=>?_)
   repeat' (first|refine vS fun K hK=>?_|refine hK _ ?_;clear hK K|refine hX ?_;clear hX hY X Y|((first|refine vR tok (by rw [hnt];rfl) ?_|refine vC fun X Y hX hY=>?_|refine vT ?_|refine vF [] ?_|(refine runS_c [] (amountTotal_ok b.own hn) rfl ?_ ?_ ?_))<;>(try simp only [go_sem,qa,qb,qc,qd,qe,qf,qg,qh,qi,qj,qk,ql,qm,qn,qo,qp,qq,qr,qs,reduceIte,reduceCtorEq,h1,if_true]))|clear hK K)
   all_goals simp [Bank.ok,h1]
theorem ledgerOf_ok (b:Bank) (h1:b.own.length=3) (h2:b.notes.length=3):Call Try.prog 122 [b.av] [] 0 (.o (.g [.mp 0,.mp 1,ci b.locked])) [(0,mapO b.own),(1,mapO b.notes)] 2:=by
 refine vO tok Try.func122 rfl rfl Try.ntmps122 Try.results122 rfl (by decide) (fun cx hnt hk0=>?_)

 repeat' (first|refine vS fun K hK=>?_|refine hK _ ?_;clear hK K|((first|refine vR tok (by rw [hnt];rfl) ?_|refine vT ?_|refine vF [] ?_|(refine AWp.draw (id:=1) tok mixed pl_len30 [0] [1,2] (by kernel_rfl) (by kernel_rfl) (by rw [hnt];rfl) ?_)|refine effS_c [] (amountMap_l b.own h1) rfl ?_ ?_ ?_|(refine effS_c [] (amountMap_l b.notes h2) rfl ?_ ?_ ?_))<;>(try simp only [go_sem,qa,qb,qc,qd,qe,qf,qg,qh,qi,qj,qk,ql,qm,qn,qo,qp,qq,qr,qs,reduceIte,reduceCtorEq])))
theorem ledgerBank_ok (b:Bank) (h1:b.own.length=3) (h2:b.notes.length=3):Call Try.prog 123 [.g [.mp 0,.mp 1,ci b.locked]] [(0,mapO b.own),(1,mapO b.notes)] 2 (.o (.g (bankA b 2))) (bankH b 2) 4:=by
 refine vO tok Try.func123 rfl rfl Try.ntmps123 Try.results123 rfl (by decide) (fun cx hnt hk0=>?_)

 repeat' (first|refine vS fun K hK=>?_|refine hK _ ?_;clear hK K|((first|refine vR tok (by rw [hnt];rfl) ?_|refine vT ?_|refine vF [] ?_|(refine AWp.draw (id:=1) tok mixed pl_len30 [2] [1,2] (by kernel_rfl) (by kernel_rfl) (by rw [hnt];rfl) ?_)|refine effS_c [0] (amountList_l b.own h1) rfl ?_ ?_ ?_|(refine effS_c [1] (amountList_l b.notes h2) rfl ?_ ?_ ?_))<;>(try simp only [go_sem,qa,qb,qc,qd,qe,qf,qg,qh,qi,qj,qk,ql,qm,qn,qo,qp,qq,qr,qs,reduceIte,reduceCtorEq])))
theorem iPacketOk_ok (p:Packet):Call Try.prog 91 [p.av] [] 0 (.o (BB p.ok)) [] 0:=by
 refine vO tok Try.func91 rfl rfl Try.ntmps91 Try.results91 rfl (by decide) (fun cx hnt hk0=>?_)
 repeat' (first|refine vS fun K hK=>?_|refine hK _ ?_;clear hK K|refine hX ?_;clear hX hY X Y|refine hY ?_;clear hX hY X Y|((first|refine vR tok (by rw [hnt];rfl) ?_|refine vC fun X Y hX hY=>?_|refine vK ?_|refine vT ?_|refine vF [] ?_|refine runS_c [] (userOk_ok _) rfl ?_ ?_ ?_|((first|apply gR|apply gC)<;>intro hq<;>(try simp only [nT,nF,n1,n0] at hq)<;>(have hb:=hq)<;>(try simp only [dT,dF,eT,eF] at hb)<;>first|(exfalso;omega)|((try simp only [hq]);clear hq)))<;>(try simp only [go_sem,qa,qb,qc,qd,qe,qf,qg,qh,qi,qj,qk,ql,qm,qn,qo,qp,qq,qr,qs,reduceIte,reduceCtorEq]))|clear hK K)
 all_goals (rw [Bool.eq_iff_iff,packet_iff];simp only [In,Bool.and_eq_true,decide_eq_true_eq,Bool.and_eq_false_iff,decide_eq_false_iff_not,Bool.false_eq_true,false_iff,true_iff,iff_true,iff_false] at *;omega)
def fateV (n:Int):TV:=if n=0 then .v (.iface 164 (.agg #[])) else if n=1 then .v (.iface 165 (.agg #[])) else .v (.iface 166 (.agg #[]))
theorem fateV_0 {n:Int} (h:n=0):fateV n=.v (.iface 164 (.agg #[])):=by subst h;rfl
theorem fateV_1 {n:Int} (h:n=1):fateV n=.v (.iface 165 (.agg #[])):=by subst h;rfl
theorem fateV_2 {n:Int} (h:n=2):fateV n=.v (.iface 166 (.agg #[])):=by subst h;rfl
theorem fateOf_ok (n:Int) (h:0≤n∧n≤2):Call Try.prog 92 [I n] [] 0 (.tup [.c (.t (fateV n)),BB true]) [] 0:=by
 rcases (show n=0 ∨ n=1 ∨ n=2 by omega) with rfl|rfl|rfl
 · rw [fateV_0 rfl]
   refine vO tok Try.func92 rfl rfl Try.ntmps92 Try.results92 rfl (by decide) (fun cx hnt hk0=>?_)
   repeat' (first|refine vS fun K hK=>?_|refine hK _ ?_;clear hK K|refine hX ?_;clear hX hY X Y|refine vB ?_|((first|refine vR tok (by rw [hnt];rfl) ?_|refine vC fun X Y hX hY=>?_|refine vT ?_|(refine vF [] ?_))<;>(try simp only [go_sem,qa,qb,qc,qd,qe,qf,qg,qh,qi,qj,qk,ql,qm,qn,qo,qp,qq,qr,qs,reduceIte,reduceCtorEq])))
 · rw [fateV_1 rfl]
   refine vO tok Try.func92 rfl rfl Try.ntmps92 Try.results92 rfl (by decide) (fun cx hnt hk0=>?_)
   repeat' (first|refine vS fun K hK=>?_|refine hK _ ?_;clear hK K|refine hX ?_;clear hX hY X Y|refine hY ?_;clear hX hY X Y|refine vB ?_|((first|refine vR tok (by rw [hnt];rfl) ?_|refine vC fun X Y hX hY=>?_|refine vT ?_|(refine vF [] ?_))<;>(try simp only [go_sem,qa,qb,qc,qd,qe,qf,qg,qh,qi,qj,qk,ql,qm,qn,qo,qp,qq,qr,qs,reduceIte,reduceCtorEq])))
 · rw [fateV_2 rfl]
   refine vO tok Try.func92 rfl rfl Try.ntmps92 Try.results92 rfl (by decide) (fun cx hnt hk0=>?_)
   repeat' (first|refine vS fun K hK=>?_|refine hK _ ?_;clear hK K|refine hX ?_;clear hX hY X Y|refine hY ?_;clear hX hY X Y|refine vB ?_|((first|refine vR tok (by rw [hnt];rfl) ?_|refine vC fun X Y hX hY=>?_|refine vT ?_|(refine vF [] ?_))<;>(try simp only [go_sem,qa,qb,qc,qd,qe,qf,qg,qh,qi,qj,qk,ql,qm,qn,qo,qp,qq,qr,qs,reduceIte,reduceCtorEq])))
theorem fateEntry_ok (n:Int) (h:0≤n∧n≤2):Call Try.prog 96 [.c (.t (fateV n))] [] 0 (.o (I n)) [] 0:=by
 rcases (show n=0 ∨ n=1 ∨ n=2 by omega) with rfl|rfl|rfl
 · rw [fateV_0 rfl]
   refine vO tok Try.func96 rfl rfl Try.ntmps96 Try.results96 rfl (by decide) (fun cx hnt hk0=>?_)
   repeat' (first|refine vS fun K hK=>?_|refine hK _ ?_;clear hK K|refine hY ?_;clear hX hY X Y|refine vB ?_|((first|refine vR tok (by rw [hnt];rfl) ?_|refine vC fun X Y hX hY=>?_|refine vK ?_|refine vT ?_|(refine vF [] ?_))<;>(try simp only [go_sem,qa,qb,qc,qd,qe,qf,qg,qh,qi,qj,qk,ql,qm,qn,qo,qp,qq,qr,qs,reduceIte,reduceCtorEq])))
 · rw [fateV_1 rfl]
   refine vO tok Try.func96 rfl rfl Try.ntmps96 Try.results96 rfl (by decide) (fun cx hnt hk0=>?_)
   repeat' (first|refine vS fun K hK=>?_|refine hK _ ?_;clear hK K|refine hX ?_;clear hX hY X Y|refine vB ?_|((first|refine vR tok (by rw [hnt];rfl) ?_|refine vC fun X Y hX hY=>?_|refine vT ?_|(refine vF [] ?_))<;>(try simp only [go_sem,qa,qb,qc,qd,qe,qf,qg,qh,qi,qj,qk,ql,qm,qn,qo,qp,qq,qr,qs,reduceIte,reduceCtorEq])))
 · rw [fateV_2 rfl]
   refine vO tok Try.func96 rfl rfl Try.ntmps96 Try.results96 rfl (by decide) (fun cx hnt hk0=>?_)
   repeat' (first|refine vS fun K hK=>?_|refine hK _ ?_;clear hK K|refine hX ?_;clear hX hY X Y|refine hY ?_;clear hX hY X Y|refine vB ?_|((first|refine vR tok (by rw [hnt];rfl) ?_|refine vC fun X Y hX hY=>?_|refine vT ?_|(refine vF [] ?_))<;>(try simp only [go_sem,qa,qb,qc,qd,qe,qf,qg,qh,qi,qj,qk,ql,qm,qn,qo,qp,qq,qr,qs,reduceIte,reduceCtorEq])))
theorem settled_none:Call Try.prog 161 [.g []] [] 0 (.o (BB false)) [] 0:=by
 refine vO tok Try.func161 rfl rfl Try.ntmps161 Try.results161 rfl (by decide) (fun cx hnt hk0=>?_)
 repeat' (first|refine vS fun K hK=>?_|refine hK _ ?_;clear hK K|((first|refine vR tok (by rw [hnt];rfl) ?_|refine vT ?_|(refine vF [] ?_))<;>(try simp only [go_sem,qa,qb,qc,qd,qe,qf,qg,qh,qi,qj,qk,ql,qm,qn,qo,qp,qq,qr,qs,reduceIte,reduceCtorEq])))
theorem settled_ok:Call Try.prog 162 [.g []] [] 0 (.o (BB true)) [] 0:=by
 refine vO tok Try.func162 rfl rfl Try.ntmps162 Try.results162 rfl (by decide) (fun cx hnt hk0=>?_)
 repeat' (first|refine vS fun K hK=>?_|refine hK _ ?_;clear hK K|((first|refine vR tok (by rw [hnt];rfl) ?_|refine vT ?_|(refine vF [] ?_))<;>(try simp only [go_sem,qa,qb,qc,qd,qe,qf,qg,qh,qi,qj,qk,ql,qm,qn,qo,qp,qq,qr,qs,reduceIte,reduceCtorEq])))
theorem settled_bad:Call Try.prog 163 [.g []] [] 0 (.o (BB true)) [] 0:=by
 refine vO tok Try.func163 rfl rfl Try.ntmps163 Try.results163 rfl (by decide) (fun cx hnt hk0=>?_)
 repeat' (first|refine vS fun K hK=>?_|refine hK _ ?_;clear hK K|((first|refine vR tok (by rw [hnt];rfl) ?_|refine vT ?_|(refine vF [] ?_))<;>(try simp only [go_sem,qa,qb,qc,qd,qe,qf,qg,qh,qi,qj,qk,ql,qm,qn,qo,qp,qq,qr,qs,reduceIte,reduceCtorEq])))
theorem fateAt_ok (s:State) (seq:Int) (hs:s.ok=true) (h:1≤seq∧seq≤8):Call Try.prog 77 [s.av,I seq] [] 0 (.o (.c (.t (fateV (s.gotAt seq))))) [] 0:=by
 obtain ⟨r1,r2,r3,r4,r5,r6,r7,r8,r9⟩:=state_ok hs
 have g:=r8 (seq - 1).toNat (by omega)
 unfold State.gotAt
 rcases (show s.got.getD (seq - 1).toNat 0=0 ∨ s.got.getD (seq - 1).toNat 0=1 ∨ s.got.getD (seq - 1).toNat 0=2 by omega) with e|e|e
 · have v:=fateV_0 e
   refine vO tok Try.func77 rfl rfl Try.ntmps77 Try.results77 rfl (by decide) (fun cx hnt hk0=>?_)
   repeat' (first|refine vS fun K hK=>?_|refine hK _ ?_;clear hK K|((first|refine vR tok (by rw [hnt];rfl) ?_|refine vT ?_|refine vF [] ?_|(refine runS_c [] (fateOf_ok _ g) rfl ?_ ?_ ?_))<;>(try simp only [go_sem,qa,qb,qc,qd,qe,qf,qg,qh,qi,qj,qk,ql,qm,qn,qo,qp,qq,qr,qs,reduceIte,reduceCtorEq,v]))|refine Fits.of ?_ ?_|refine aE ?_ fun hp=>?_|refine aC ?_ fun hp=>?_|refine And.intro ?_ ?_|clear hK K)
   all_goals try omega
 · have v:=fateV_1 e
   refine vO tok Try.func77 rfl rfl Try.ntmps77 Try.results77 rfl (by decide) (fun cx hnt hk0=>?_)
   repeat' (first|refine vS fun K hK=>?_|refine hK _ ?_;clear hK K|((first|refine vR tok (by rw [hnt];rfl) ?_|refine vT ?_|refine vF [] ?_|(refine runS_c [] (fateOf_ok _ g) rfl ?_ ?_ ?_))<;>(try simp only [go_sem,qa,qb,qc,qd,qe,qf,qg,qh,qi,qj,qk,ql,qm,qn,qo,qp,qq,qr,qs,reduceIte,reduceCtorEq,v]))|refine Fits.of ?_ ?_|refine aE ?_ fun hp=>?_|refine aC ?_ fun hp=>?_|refine And.intro ?_ ?_|clear hK K)
   all_goals try omega
 · have v:=fateV_2 e
   refine vO tok Try.func77 rfl rfl Try.ntmps77 Try.results77 rfl (by decide) (fun cx hnt hk0=>?_)
   repeat' (first|refine vS fun K hK=>?_|refine hK _ ?_;clear hK K|((first|refine vR tok (by rw [hnt];rfl) ?_|refine vT ?_|refine vF [] ?_|(refine runS_c [] (fateOf_ok _ g) rfl ?_ ?_ ?_))<;>(try simp only [go_sem,qa,qb,qc,qd,qe,qf,qg,qh,qi,qj,qk,ql,qm,qn,qo,qp,qq,qr,qs,reduceIte,reduceCtorEq,v]))|refine Fits.of ?_ ?_|refine aE ?_ fun hp=>?_|refine aC ?_ fun hp=>?_|refine And.intro ?_ ?_|clear hK K)
   all_goals try omega
theorem stateSentOk_yes (s:State) (hs:s.ok=true):Call Try.prog 61 [s.av] [] 0 (.o (BB true)) [] 0:=by
 obtain ⟨r1,r2,r3,r4,r5,r6,r7,r8,r9⟩:=state_ok hs
 refine vO tok Try.func61 rfl rfl Try.ntmps61 Try.results61 rfl (by decide) (fun cx hnt hk0=>?_)
 repeat' (first|refine vS fun K hK=>?_|refine hK _ ?_;clear hK K|refine hY ?_;clear hX hY X Y|refine vB ?_|((first|refine vR tok (by rw [hnt];rfl) ?_|refine vC fun X Y hX hY=>?_|refine vK ?_|((first|apply gR|apply gC)<;>intro hq<;>(try simp only [nT,nF,n1,n0] at hq)<;>(have hb:=hq)<;>(try simp only [dT,dF,eT,eF] at hb)<;>first|(exfalso;omega)|((try simp only [hq]);clear hq)))<;>(try simp only [go_sem,qa,qb,qc,qd,qe,qf,qg,qh,qi,qj,qk,ql,qm,qn,qo,qp,qq,qr,qs,reduceIte,reduceCtorEq])))
 all_goals try omega
 refine AWp.loop (fun i:Nat=>⟨[(1,.o (.c (.ptr 0 0 0 0))),(28,.o (.c (.t (packetsT s.sent)))),(29,.o (I s.sent.length)),(30,.o (I i))],[(0,s.box)],1⟩) (fun i=>i≤s.sent.length) (fun i=>s.sent.length - i) 0 (Nat.zero_le _) ?_ ?_
 · refine vL hk0 [] ?_;simp only [go_sem,qa,qb,qc,qd,qe,qf,qg,qh,qi,qj,qk,ql,qm,qn,qo,qp,qq,qr,qs,reduceIte,reduceCtorEq]
   simp
 intro i hi
 by_cases hlt:i < s.sent.length
 · obtain ⟨a1,a2,a3,a4⟩:=sentOk_iff (r7 i hlt)
   rcases a3 with a3|a3
   · repeat' (first|refine vS fun K hK=>?_|refine hK _ ?_;clear hK K|refine hX ?_;clear hX hY X Y|refine hY ?_;clear hX hY X Y|refine vB ?_|((first|refine vR tok (by rw [hnt];rfl) ?_|refine vC fun X Y hX hY=>?_|refine vK ?_|(refine runS_c [] (iPacketOk_ok (s.sent.getD i default)) rfl ?_ ?_ ?_)|refine vL hk0 [] ?_|((first|apply gR|apply gC)<;>intro hq<;>(try simp only [nT,nF,n1,n0] at hq)<;>(have hb:=hq)<;>(try simp only [dT,dF,eT,eF] at hb)<;>first|(exfalso;omega)|((try simp only [hq]);clear hq)))<;>(try simp only [go_sem,qa,qb,qc,qd,qe,qf,qg,qh,qi,qj,qk,ql,qm,qn,qo,qp,qq,qr,qs,reduceIte,reduceCtorEq,a1,a3]))|refine ⟨i+1,?_,?_,?_⟩|refine Fits.of ?_ ?_|refine aE ?_ fun hp=>?_|refine aC ?_ fun hp=>?_|refine And.intro ?_ ?_|clear hK K)
     all_goals try (first|omega|(simp only [dA,dB,dC];omega))
   · repeat' (first|refine vS fun K hK=>?_|refine hK _ ?_;clear hK K|refine hX ?_;clear hX hY X Y|refine hY ?_;clear hX hY X Y|refine vB ?_|((first|refine vR tok (by rw [hnt];rfl) ?_|refine vC fun X Y hX hY=>?_|refine vK ?_|(refine runS_c [] (iPacketOk_ok (s.sent.getD i default)) rfl ?_ ?_ ?_)|refine vL hk0 [] ?_|((first|apply gR|apply gC)<;>intro hq<;>(try simp only [nT,nF,n1,n0] at hq)<;>(have hb:=hq)<;>(try simp only [dT,dF,eT,eF] at hb)<;>first|(exfalso;omega)|((try simp only [hq]);clear hq)))<;>(try simp only [go_sem,qa,qb,qc,qd,qe,qf,qg,qh,qi,qj,qk,ql,qm,qn,qo,qp,qq,qr,qs,reduceIte,reduceCtorEq,a1,a3]))|refine ⟨i+1,?_,?_,?_⟩|refine Fits.of ?_ ?_|refine aE ?_ fun hp=>?_|refine aC ?_ fun hp=>?_|refine And.intro ?_ ?_|clear hK K)
     all_goals try (first|omega|(simp only [dA,dB,dC];omega))
 · repeat' (first|refine vS fun K hK=>?_|refine hK _ ?_;clear hK K|refine hY ?_;clear hX hY X Y|((first|refine vR tok (by rw [hnt];rfl) ?_|refine vC fun X Y hX hY=>?_|refine vE ?_|refine vT ?_|refine vF [] ?_|(apply gC<;>intro hq<;>(try simp only [nT,nF,n1,n0] at hq)<;>(have hb:=hq)<;>(try simp only [dT,dF,eT,eF] at hb)<;>first|(exfalso;omega)|((try simp only [hq]);clear hq)))<;>(try simp only [go_sem,qa,qb,qc,qd,qe,qf,qg,qh,qi,qj,qk,ql,qm,qn,qo,qp,qq,qr,qs,reduceIte,reduceCtorEq]))|clear hK K)
   all_goals try omega
theorem stateGotOk_yes (s:State) (hs:s.ok=true):Call Try.prog 62 [s.av] [] 0 (.o (BB true)) [] 0:=by
 obtain ⟨r1,r2,r3,r4,r5,r6,r7,r8,r9⟩:=state_ok hs
 refine vO tok Try.func62 rfl rfl Try.ntmps62 Try.results62 rfl (by decide) (fun cx hnt hk0=>?_)
 repeat' (first|refine vS fun K hK=>?_|refine hK _ ?_;clear hK K|refine hY ?_;clear hX hY X Y|refine vB ?_|((first|refine vR tok (by rw [hnt];rfl) ?_|refine vC fun X Y hX hY=>?_|refine vK ?_|(apply gC<;>intro hq<;>(try simp only [nT,nF,n1,n0] at hq)<;>(have hb:=hq)<;>(try simp only [dT,dF,eT,eF] at hb)<;>first|(exfalso;omega)|((try simp only [hq]);clear hq)))<;>(try simp only [go_sem,qa,qb,qc,qd,qe,qf,qg,qh,qi,qj,qk,ql,qm,qn,qo,qp,qq,qr,qs,reduceIte,reduceCtorEq])))
 all_goals try omega
 refine AWp.loop (fun i:Nat=>⟨[(12,.o (.c (.t (intsT s.got)))),(13,.o (I s.got.length)),(14,.o (I i))],[],0⟩) (fun i=>i≤s.got.length) (fun i=>s.got.length - i) 0 (Nat.zero_le _) ?_ ?_
 · refine vL hk0 [] ?_;simp only [go_sem,qa,qb,qc,qd,qe,qf,qg,qh,qi,qj,qk,ql,qm,qn,qo,qp,qq,qr,qs,reduceIte,reduceCtorEq]
   simp
 intro i hi
 by_cases hlt:i < s.got.length
 · have g:=r8 i (by omega)
   repeat' (first|refine vS fun K hK=>?_|refine hK _ ?_;clear hK K|refine hX ?_;clear hX hY X Y|refine hY ?_;clear hX hY X Y|refine vB ?_|((first|refine vR tok (by rw [hnt];rfl) ?_|refine vC fun X Y hX hY=>?_|refine vK ?_|refine runS_c [] (fateOf_ok _ g) rfl ?_ ?_ ?_|refine vL hk0 [] ?_|(apply gC<;>intro hq<;>(try simp only [nT,nF,n1,n0] at hq)<;>(have hb:=hq)<;>(try simp only [dT,dF,eT,eF] at hb)<;>first|(exfalso;omega)|((try simp only [hq]);clear hq)))<;>(try simp only [go_sem,qa,qb,qc,qd,qe,qf,qg,qh,qi,qj,qk,ql,qm,qn,qo,qp,qq,qr,qs,reduceIte,reduceCtorEq]))|refine ⟨i+1,?_,?_,?_⟩|refine Fits.of ?_ ?_|refine aE ?_ fun hp=>?_|refine aC ?_ fun hp=>?_|refine And.intro ?_ ?_|clear hK K)
   all_goals try (first|omega|(simp only [dA,dB,dC];omega))
 · repeat' (first|refine vS fun K hK=>?_|refine hK _ ?_;clear hK K|refine hY ?_;clear hX hY X Y|((first|refine vR tok (by rw [hnt];rfl) ?_|refine vC fun X Y hX hY=>?_|refine vE ?_|refine vT ?_|refine vF [] ?_|(apply gC<;>intro hq<;>(try simp only [nT,nF,n1,n0] at hq)<;>(have hb:=hq)<;>(try simp only [dT,dF,eT,eF] at hb)<;>first|(exfalso;omega)|((try simp only [hq]);clear hq)))<;>(try simp only [go_sem,qa,qb,qc,qd,qe,qf,qg,qh,qi,qj,qk,ql,qm,qn,qo,qp,qq,qr,qs,reduceIte,reduceCtorEq]))|clear hK K)
   all_goals try omega
theorem iStateOk_yes (s:State) (hs:s.ok=true):Call Try.prog 27 [s.av] [] 0 (.o (BB true)) [] 0:=by
 obtain ⟨r1,r2,r3,r4,r5,r6,r7,r8,r9⟩:=state_ok hs
 by_cases hw:s.way=4
 · rw [if_pos hw] at r9
   refine vO tok Try.func27 rfl rfl Try.ntmps27 Try.results27 rfl (by decide) (fun cx hnt hk0=>?_)
   repeat' (first|refine vS fun K hK=>?_|refine hK _ ?_;clear hK K|refine hX ?_;clear hX hY X Y|refine hY ?_;clear hX hY X Y|((first|refine vR tok (by rw [hnt];rfl) ?_|refine vC fun X Y hX hY=>?_|refine vK ?_|refine vT ?_|refine vF [] ?_|refine runS_c [] (stateSentOk_yes s hs) rfl ?_ ?_ ?_|refine runS_c [] (stateGotOk_yes s hs) rfl ?_ ?_ ?_|((first|apply gR|apply gC)<;>intro hq<;>(try simp only [nT,nF,n1,n0] at hq)<;>(have hb:=hq)<;>(try simp only [dT,dF,eT,eF] at hb)<;>first|(exfalso;omega)|((try simp only [hq]);clear hq)))<;>(try simp only [go_sem,qa,qb,qc,qd,qe,qf,qg,qh,qi,qj,qk,ql,qm,qn,qo,qp,qq,qr,qs,reduceIte,reduceCtorEq]))|refine Fits.of ?_ ?_|refine And.intro ?_ ?_|clear hK K)
   all_goals try omega
 · rw [if_neg hw] at r9
   refine vO tok Try.func27 rfl rfl Try.ntmps27 Try.results27 rfl (by decide) (fun cx hnt hk0=>?_)
   repeat' (first|refine vS fun K hK=>?_|refine hK _ ?_;clear hK K|refine hY ?_;clear hX hY X Y|((first|refine vR tok (by rw [hnt];rfl) ?_|refine vC fun X Y hX hY=>?_|refine vK ?_|refine vT ?_|refine vF [] ?_|refine runS_c [] (stateSentOk_yes s hs) rfl ?_ ?_ ?_|refine runS_c [] (stateGotOk_yes s hs) rfl ?_ ?_ ?_|((first|apply gR|apply gC)<;>intro hq<;>(try simp only [nT,nF,n1,n0] at hq)<;>(have hb:=hq)<;>(try simp only [dT,dF,eT,eF] at hb)<;>first|(exfalso;omega)|((try simp only [hq]);clear hq)))<;>(try simp only [go_sem,qa,qb,qc,qd,qe,qf,qg,qh,qi,qj,qk,ql,qm,qn,qo,qp,qq,qr,qs,reduceIte,reduceCtorEq])))
   all_goals try omega
theorem freshI_ok (l:List Int) (h:l.length≤1000):Call Try.prog 65 [.c (.t (intsT l))] [] 0 (.o (.c (.sl 0 1 0 l.length))) [(0,rI l)] 1:=by
 refine vO tok Try.func65 rfl rfl Try.ntmps65 Try.results65 rfl (by decide) (fun cx hnt hk0=>?_)
 repeat' (first|refine vS fun K hK=>?_|refine hK _ ?_;clear hK K|((first|refine vR tok (by rw [hnt];rfl) ?_|refine vT ?_|(refine vF [] ?_))<;>(try simp only [go_sem,qa,qb,qc,qd,qe,qf,qg,qh,qi,qj,qk,ql,qm,qn,qo,qp,qq,qr,qs,reduceIte,reduceCtorEq]))|refine aE ?_ fun hp=>?_|refine And.intro ?_ ?_|clear hK K)
 all_goals try omega
theorem freshB_ok (l:List Bool) (h:l.length≤1000):Call Try.prog 94 [.c (.t (boolsT l))] [] 0 (.o (.c (.sl 0 1 0 l.length))) [(0,rB l)] 1:=by
 refine vO tok Try.func94 rfl rfl Try.ntmps94 Try.results94 rfl (by decide) (fun cx hnt hk0=>?_)
 repeat' (first|refine vS fun K hK=>?_|refine hK _ ?_;clear hK K|((first|refine vR tok (by rw [hnt];rfl) ?_|refine vT ?_|(refine vF [] ?_))<;>(try simp only [go_sem,qa,qb,qc,qd,qe,qf,qg,qh,qi,qj,qk,ql,qm,qn,qo,qp,qq,qr,qs,reduceIte,reduceCtorEq]))|refine aE ?_ fun hp=>?_|refine And.intro ?_ ?_|clear hK K)
 all_goals try omega
theorem freshP_ok (l:List Packet) (h:l.length≤1000):Call Try.prog 93 [.c (.t (packetsT l))] [] 0 (.o (.c (.sl 0 7 0 l.length))) [(0,rP l)] 1:=by
 refine vO tok Try.func93 rfl rfl Try.ntmps93 Try.results93 rfl (by decide) (fun cx hnt hk0=>?_)
 repeat' (first|refine vS fun K hK=>?_|refine hK _ ?_;clear hK K|((first|refine vR tok (by rw [hnt];rfl) ?_|refine vT ?_|(refine vF [] ?_))<;>(try simp only [go_sem,qa,qb,qc,qd,qe,qf,qg,qh,qi,qj,qk,ql,qm,qn,qo,qp,qq,qr,qs,reduceIte,reduceCtorEq]))|refine aE ?_ fun hp=>?_|refine And.intro ?_ ?_|clear hK K)
 all_goals try omega
theorem stateCopy_ok (s:State) (h1:s.sent.length≤1000) (h2:s.live.length≤1000) (h3:s.back.length≤1000) (h4:s.got.length≤1000):Call Try.prog 64 [s.av] [] 0 (.o (.g (stateA s 0))) (stateH s 0) 4:=by
 refine vO tok Try.func64 rfl rfl Try.ntmps64 Try.results64 rfl (by decide) (fun cx hnt hk0=>?_)

 repeat' (first|refine vS fun K hK=>?_|refine hK _ ?_;clear hK K|((first|refine vR tok (by rw [hnt];rfl) ?_|refine vT ?_|refine vF [] ?_|(refine AWp.draw (id:=1) tok mixed (.tak 0 (.tak 1 (.tak 2 (.tak 3 (.tak 4 (.tak 5 (.tak 6 (.tak 7 (.tak 9 (.tak 10 (.tak 12 (.tak 13 (.tak 15 (.tak 16 (.all (.cons 8 (.all (.cons 11 (.all (.cons 14 (.all (.cons 17 (.all (.cons 18 (.all (.cons 19 .done .nil)) .nil)) .nil)) .nil)) .nil)) .nil)))))))))))))))) [0] [1,2] (by kernel_rfl) (by kernel_rfl) (by rw [hnt];rfl) ?_)|refine effS_c [] (freshP_ok s.sent h1) rfl ?_ ?_ ?_|refine effS_c [] (freshB_ok s.live h2) rfl ?_ ?_ ?_|refine effS_c [] (freshB_ok s.back h3) rfl ?_ ?_ ?_|(refine effS_c [] (freshI_ok s.got h4) rfl ?_ ?_ ?_))<;>(try simp only [go_sem,qa,qb,qc,qd,qe,qf,qg,qh,qi,qj,qk,ql,qm,qn,qo,qp,qq,qr,qs,reduceIte,reduceCtorEq])))
 all_goals try omega
theorem StateGot_yes (s:State) (seq:Int) (hs:s.ok=true) (h:1≤seq∧seq≤8):Call Try.prog 69 [s.av,I seq] [] 0 (.o (I (s.gotAt seq))) [] 0:=by
 obtain ⟨r1,r2,r3,r4,r5,r6,r7,r8,r9⟩:=state_ok hs
 have g:=r8 (seq - 1).toNat (by omega)
 have a1:=fateAt_ok s seq hs h
 have a2:=fateEntry_ok (s.gotAt seq) g
 rcases (show s.gotAt seq=0 ∨ s.gotAt seq=1 ∨ s.gotAt seq=2 by unfold State.gotAt;omega) with e|e|e
 · have v:=fateV_0 e
   rw [v] at a1 a2
   refine vO tok Try.func69 rfl rfl Try.ntmps69 Try.results69 rfl (by decide) (fun cx hnt hk0=>?_)
   repeat' (first|refine vS fun K hK=>?_|refine hK _ ?_;clear hK K|refine hY ?_;clear hX hY X Y|((first|refine vR tok (by rw [hnt];rfl) ?_|refine vC fun X Y hX hY=>?_|refine vK ?_|refine vT ?_|refine vF [] ?_|refine runS_c [] (iStateOk_yes s hs) rfl ?_ ?_ ?_|refine runS_c [] (a1) rfl ?_ ?_ ?_|refine runS_c [] (a2) rfl ?_ ?_ ?_|(apply gR<;>intro hq<;>(try simp only [nT,nF,n1,n0] at hq)<;>(have hb:=hq)<;>(try simp only [dT,dF,eT,eF] at hb)<;>first|(exfalso;omega)|((try simp only [hq]);clear hq)))<;>(try simp only [go_sem,qa,qb,qc,qd,qe,qf,qg,qh,qi,qj,qk,ql,qm,qn,qo,qp,qq,qr,qs,reduceIte,reduceCtorEq])))
   all_goals try omega
 · have v:=fateV_1 e
   rw [v] at a1 a2
   refine vO tok Try.func69 rfl rfl Try.ntmps69 Try.results69 rfl (by decide) (fun cx hnt hk0=>?_)
   repeat' (first|refine vS fun K hK=>?_|refine hK _ ?_;clear hK K|refine hY ?_;clear hX hY X Y|((first|refine vR tok (by rw [hnt];rfl) ?_|refine vC fun X Y hX hY=>?_|refine vK ?_|refine vT ?_|refine vF [] ?_|refine runS_c [] (iStateOk_yes s hs) rfl ?_ ?_ ?_|refine runS_c [] (a1) rfl ?_ ?_ ?_|refine runS_c [] (a2) rfl ?_ ?_ ?_|(apply gR<;>intro hq<;>(try simp only [nT,nF,n1,n0] at hq)<;>(have hb:=hq)<;>(try simp only [dT,dF,eT,eF] at hb)<;>first|(exfalso;omega)|((try simp only [hq]);clear hq)))<;>(try simp only [go_sem,qa,qb,qc,qd,qe,qf,qg,qh,qi,qj,qk,ql,qm,qn,qo,qp,qq,qr,qs,reduceIte,reduceCtorEq])))
   all_goals try omega
 · have v:=fateV_2 e
   rw [v] at a1 a2
   refine vO tok Try.func69 rfl rfl Try.ntmps69 Try.results69 rfl (by decide) (fun cx hnt hk0=>?_)
   repeat' (first|refine vS fun K hK=>?_|refine hK _ ?_;clear hK K|refine hY ?_;clear hX hY X Y|((first|refine vR tok (by rw [hnt];rfl) ?_|refine vC fun X Y hX hY=>?_|refine vK ?_|refine vT ?_|refine vF [] ?_|refine runS_c [] (iStateOk_yes s hs) rfl ?_ ?_ ?_|refine runS_c [] (a1) rfl ?_ ?_ ?_|refine runS_c [] (a2) rfl ?_ ?_ ?_|(apply gR<;>intro hq<;>(try simp only [nT,nF,n1,n0] at hq)<;>(have hb:=hq)<;>(try simp only [dT,dF,eT,eF] at hb)<;>first|(exfalso;omega)|((try simp only [hq]);clear hq)))<;>(try simp only [go_sem,qa,qb,qc,qd,qe,qf,qg,qh,qi,qj,qk,ql,qm,qn,qo,qp,qq,qr,qs,reduceIte,reduceCtorEq])))
   all_goals try omega
def State.settledV (s:State) (seq:Int):Int :=
 if In seq 1 s.sent.length then (if s.live.getD (seq - 1).toNat false then 1 else if s.back.getD (seq - 1).toNat false then 3 else 2) else 0
theorem StateSettled_yes (s:State) (seq:Int) (hs:s.ok=true):Call Try.prog 76 [s.av,I seq] [] 0 (.o (I (s.settledV seq))) [] 0:=by
 obtain ⟨r1,r2,r3,r4,r5,r6,r7,r8,r9⟩:=state_ok hs
 unfold State.settledV
 by_cases hi:In seq 1 s.sent.length=true
 · rw [if_pos hi]
   rw [In_iff] at hi
   cases e1:s.live.getD (seq - 1).toNat false
   · cases e2:s.back.getD (seq - 1).toNat false
     · refine vO tok Try.func76 rfl rfl Try.ntmps76 Try.results76 rfl (by decide) (fun cx hnt hk0=>?_)
       repeat' (first|refine vS fun K hK=>?_|refine hK _ ?_;clear hK K|refine hY ?_;clear hX hY X Y|refine vB ?_|((first|refine vR tok (by rw [hnt];rfl) ?_|refine vC fun X Y hX hY=>?_|refine vK ?_|refine vT ?_|refine vF [] ?_|refine runS_c [] (iStateOk_yes s hs) rfl ?_ ?_ ?_|((first|apply gR|apply gC)<;>intro hq<;>(try simp only [nT,nF,n1,n0] at hq)<;>(have hb:=hq)<;>(try simp only [dT,dF,eT,eF] at hb)<;>first|(exfalso;omega)|((try simp only [hq]);clear hq)))<;>(try simp only [go_sem,qa,qb,qc,qd,qe,qf,qg,qh,qi,qj,qk,ql,qm,qn,qo,qp,qq,qr,qs,reduceIte,reduceCtorEq,e1,e2,Bool.false_eq_true,if_false]))|refine Fits.of ?_ ?_|refine aE ?_ fun hp=>?_|refine aC ?_ fun hp=>?_|refine And.intro ?_ ?_|clear hK K)
       all_goals try omega
     · refine vO tok Try.func76 rfl rfl Try.ntmps76 Try.results76 rfl (by decide) (fun cx hnt hk0=>?_)
       repeat' (first|refine vS fun K hK=>?_|refine hK _ ?_;clear hK K|refine hX ?_;clear hX hY X Y|refine hY ?_;clear hX hY X Y|refine vB ?_|((first|refine vR tok (by rw [hnt];rfl) ?_|refine vC fun X Y hX hY=>?_|refine vK ?_|refine vT ?_|refine vF [] ?_|refine runS_c [] (iStateOk_yes s hs) rfl ?_ ?_ ?_|((first|apply gR|apply gC)<;>intro hq<;>(try simp only [nT,nF,n1,n0] at hq)<;>(have hb:=hq)<;>(try simp only [dT,dF,eT,eF] at hb)<;>first|(exfalso;omega)|((try simp only [hq]);clear hq)))<;>(try simp only [go_sem,qa,qb,qc,qd,qe,qf,qg,qh,qi,qj,qk,ql,qm,qn,qo,qp,qq,qr,qs,reduceIte,reduceCtorEq,e1,e2,Bool.false_eq_true,if_false,if_true]))|refine Fits.of ?_ ?_|refine aE ?_ fun hp=>?_|refine aC ?_ fun hp=>?_|refine And.intro ?_ ?_|clear hK K)
       all_goals try omega
   · refine vO tok Try.func76 rfl rfl Try.ntmps76 Try.results76 rfl (by decide) (fun cx hnt hk0=>?_)
     repeat' (first|refine vS fun K hK=>?_|refine hK _ ?_;clear hK K|refine hX ?_;clear hX hY X Y|refine hY ?_;clear hX hY X Y|refine vB ?_|((first|refine vR tok (by rw [hnt];rfl) ?_|refine vC fun X Y hX hY=>?_|refine vK ?_|refine vT ?_|refine vF [] ?_|refine runS_c [] (iStateOk_yes s hs) rfl ?_ ?_ ?_|((first|apply gR|apply gC)<;>intro hq<;>(try simp only [nT,nF,n1,n0] at hq)<;>(have hb:=hq)<;>(try simp only [dT,dF,eT,eF] at hb)<;>first|(exfalso;omega)|((try simp only [hq]);clear hq)))<;>(try simp only [go_sem,qa,qb,qc,qd,qe,qf,qg,qh,qi,qj,qk,ql,qm,qn,qo,qp,qq,qr,qs,reduceIte,reduceCtorEq,e1,if_true]))|refine Fits.of ?_ ?_|refine aE ?_ fun hp=>?_|refine aC ?_ fun hp=>?_|refine And.intro ?_ ?_|clear hK K)
     all_goals try omega
 · rw [if_neg hi]
   rw [In_iff] at hi
   refine vO tok Try.func76 rfl rfl Try.ntmps76 Try.results76 rfl (by decide) (fun cx hnt hk0=>?_)
   repeat' (first|refine vS fun K hK=>?_|refine hK _ ?_;clear hK K|refine hX ?_;clear hX hY X Y|((first|refine vR tok (by rw [hnt];rfl) ?_|refine vC fun X Y hX hY=>?_|refine vT ?_|refine vF [] ?_|refine runS_c [] (iStateOk_yes s hs) rfl ?_ ?_ ?_|((first|apply gR|apply gC)<;>intro hq<;>(try simp only [nT,nF,n1,n0] at hq)<;>(have hb:=hq)<;>(try simp only [dT,dF,eT,eF] at hb)<;>first|(exfalso;omega)|((try simp only [hq]);clear hq)))<;>(try simp only [go_sem,qa,qb,qc,qd,qe,qf,qg,qh,qi,qj,qk,ql,qm,qn,qo,qp,qq,qr,qs,reduceIte,reduceCtorEq])))
   all_goals try omega
@[go_sem ↓] theorem colC_t {k:Nat} {x:Cell} {y:TV}:colC k x (.t y)=[]:=by
 cases x with
 | t x=>unfold colC;split<;>first|rfl|(rename_i h;cases h)
 | _=>rfl
def marksT:List State→TV
 | []=>.v (.pointer none)
 | s ::r=>.ptr 8 fun j=>if j=7 then marksT r else s.tv j
def markF (s:State) (r:List State) (j:Nat):TV:=if j=7 then marksT r else s.tv j
theorem marksT_cons (s:State) (r:List State):marksT (s ::r)=.ptr 8 (markF s r):=rfl
@[go_sem] theorem markF_7 (s:State) (r:List State):markF s r 7=marksT r:=rfl
@[go_sem] theorem markF_0 (s:State) (r:List State):markF s r 0=s.tv 0:=rfl
@[go_sem] theorem markF_1 (s:State) (r:List State):markF s r 1=s.tv 1:=rfl
@[go_sem] theorem markF_2 (s:State) (r:List State):markF s r 2=s.tv 2:=rfl
@[go_sem] theorem markF_3 (s:State) (r:List State):markF s r 3=s.tv 3:=rfl
@[go_sem] theorem markF_4 (s:State) (r:List State):markF s r 4=s.tv 4:=rfl
@[go_sem] theorem markF_5 (s:State) (r:List State):markF s r 5=s.tv 5:=rfl
@[go_sem] theorem markF_6 (s:State) (r:List State):markF s r 6=s.tv 6:=rfl
attribute [go_sem] marksT_cons
@[go_sem] theorem marksT_nil:marksT []=.v (.pointer none):=rfl
def linkA (c:Chain) (h:Nat):List Cell:=bankA c.bank h++(.t (.v (.int .i64 c.id)) ::(stateA c.state (h+2)++[.t (marksT c.past.reverse),.t (.v (.int .i64 c.past.length)),.sl (h+6) 1 0 c.knows.length]))
def linkH (c:Chain) (h0 h:Nat):Heap:=(h0,.box (linkA c h)) ::(bankH c.bank h++(stateH c.state (h+2)++[(h+6,rI c.knows)]))
attribute [go_sem] linkA linkH
def prevK (l:List Int):Nat→Int
 | 0=>0
 | k+1=>l.getD k 0
theorem prevK_zero (l:List Int):prevK l 0=0:=rfl
theorem prevK_succ (l:List Int) (k:Nat):prevK l (k+1)=l.getD k 0:=rfl
theorem prevK_lt {l:List Int} {k:Nat} (h:knowOk l k=true):prevK l k < l.getD k 0∧l.getD k 0≤90:=by
 simp only [knowOk,Bool.and_eq_true,In_iff,Bool.not_eq_true',Bool.and_eq_false_iff,decide_eq_false_iff_not] at h
 cases k with
 | zero=>show (0:Int) < _∧_;omega
 | succ k =>
   have e:(((k+1:Nat):Int) - 1).toNat=k:=by omega
   rw [e] at h
   show l.getD k 0 < _∧_
   omega
def State.sentP (s:State):Bool:=decide ((s.sent.length:Int)≤8) && (decide ((s.live.length:Int)=s.sent.length) && (decide ((s.back.length:Int)=s.sent.length) && rall s.sent.length s.sentOk))
def State.gotP (s:State):Bool:=decide ((s.got.length:Int)=8) && rall s.got.length (fun i=>In (s.got.getD i 0) 0 2)
theorem fateOf_no (n:Int) (h:¬ (0≤n∧n≤2)):Call Try.prog 92 [I n] [] 0 (.tup [.c (.t (.v .nilIface)),BB false]) [] 0:=by
 refine vO tok Try.func92 rfl rfl Try.ntmps92 Try.results92 rfl (by decide) (fun cx hnt hk0=>?_)
 repeat' (first|refine vS fun K hK=>?_|refine hK _ ?_;clear hK K|refine hY ?_;clear hX hY X Y|refine vB ?_|((first|refine vR tok (by rw [hnt];rfl) ?_|refine vC fun X Y hX hY=>?_|refine vK ?_|refine vT ?_|refine vF [] ?_|(apply gC<;>intro hq<;>(try simp only [nT,nF,n1,n0] at hq)<;>(have hb:=hq)<;>(try simp only [dT,dF,eT,eF] at hb)<;>first|(exfalso;omega)|((try simp only [hq]);clear hq)))<;>(try simp only [go_sem,qa,qb,qc,qd,qe,qf,qg,qh,qi,qj,qk,ql,qm,qn,qo,qp,qq,qr,qs,reduceIte,reduceCtorEq])))
 all_goals first|omega
theorem iSentOk_ok (s:State) (h1:(s.sent.length:Int) < 1099511627776):Call Try.prog 61 [s.av] [] 0 (.o (BB s.sentP)) [] 0:=by
 refine vO tok Try.func61 rfl rfl Try.ntmps61 Try.results61 rfl (by decide) (fun cx hnt hk0=>?_)
 repeat' (first|refine vS fun K hK=>?_|refine hK _ ?_;clear hK K|refine hX ?_;clear hX hY X Y|refine hY ?_;clear hX hY X Y|refine vB ?_|((first|refine vR tok (by rw [hnt];rfl) ?_|refine vC fun X Y hX hY=>?_|refine vK ?_|refine vT ?_|refine vF [] ?_|((first|apply gR|apply gC)<;>intro hq<;>(try simp only [nT,nF,n1,n0] at hq)<;>(have hb:=hq)<;>(try simp only [dT,dF,eT,eF] at hb)<;>first|(exfalso;omega)|((try simp only [hq]);clear hq)))<;>(try simp only [go_sem,qa,qb,qc,qd,qe,qf,qg,qh,qi,qj,qk,ql,qm,qn,qo,qp,qq,qr,qs,reduceIte,reduceCtorEq]))|clear hK K)
 all_goals try (first|omega|(simp only [dA,dB,dC];omega))
 all_goals try (first|(simp [-List.getD_eq_getElem?_getD,State.sentP, *];done)|(simp [-List.getD_eq_getElem?_getD,State.sentP, *];omega)|(simp [-List.getD_eq_getElem?_getD,State.sentP, *];intros;omega))
 refine AWp.loop (fun i:Nat=>⟨[(1,.o (.c (.ptr 0 0 0 0))),(28,.o (.c (.t (packetsT s.sent)))),(29,.o (I s.sent.length)),(30,.o (I i))],[(0,s.box)],1⟩) (fun i=>i≤s.sent.length∧rall i s.sentOk=true) (fun i=>s.sent.length - i) 0 ⟨Nat.zero_le _,rall_zero⟩ ?_ ?_
 · refine vL hk0 [] ?_;simp only [go_sem,qa,qb,qc,qd,qe,qf,qg,qh,qi,qj,qk,ql,qm,qn,qo,qp,qq,qr,qs,reduceIte,reduceCtorEq]
   simp
 intro i ⟨hi,hr⟩
 repeat' (first|refine vS fun K hK=>?_|refine hK _ ?_;clear hK K|refine hX ?_;clear hX hY X Y|refine hY ?_;clear hX hY X Y|refine vB ?_|((first|refine vR tok (by rw [hnt];rfl) ?_|refine vC fun X Y hX hY=>?_|refine vK ?_|refine vE ?_|refine vT ?_|refine vF [] ?_|(refine runS_c [] (iPacketOk_ok (s.sent.getD i default)) rfl ?_ ?_ ?_)|refine vL hk0 [] ?_|((first|apply gR|apply gC)<;>intro hq<;>(try simp only [nT,nF,n1,n0] at hq)<;>(have hb:=hq)<;>(try simp only [dT,dF,eT,eF] at hb)<;>first|(exfalso;omega)|((try simp only [hq]);clear hq)))<;>(try simp only [go_sem,qa,qb,qc,qd,qe,qf,qg,qh,qi,qj,qk,ql,qm,qn,qo,qp,qq,qr,qs,reduceIte,reduceCtorEq]))|refine ⟨i+1,?_,?_,?_⟩|refine Fits.of ?_ ?_|refine aE ?_ fun hp=>?_|refine aC ?_ fun hp=>?_|refine And.intro ?_ ?_|clear hK K)
 all_goals try (first|omega|(simp only [dA,dB,dC];omega))
 all_goals try (have h0:s.sentOk i=false:=by simp [-List.getD_eq_getElem?_getD,State.sentOk, *]
                have h9:=rall_false (p:=s.sentOk) (i:=i) (n:=s.sent.length) (by omega) h0
                simp [-List.getD_eq_getElem?_getD,State.sentP,h9];done)
 all_goals try (refine rall_succ hr ?_;simp [-List.getD_eq_getElem?_getD,State.sentOk, *];omega)
 all_goals try (
   have hr2:rall s.sent.length s.sentOk=true:=by rw [show s.sent.length=i from by omega];exact hr
   have h8:(s.sent.length:Int)≤8:=by omega
   simp only [State.sentP,hr2]
   simp [-List.getD_eq_getElem?_getD, *]
   done)
theorem iGotOk_ok (s:State) (h1:(s.got.length:Int) < 1099511627776):Call Try.prog 62 [s.av] [] 0 (.o (BB s.gotP)) [] 0:=by
 refine vO tok Try.func62 rfl rfl Try.ntmps62 Try.results62 rfl (by decide) (fun cx hnt hk0=>?_)
 repeat' (first|refine vS fun K hK=>?_|refine hK _ ?_;clear hK K|refine hX ?_;clear hX hY X Y|refine hY ?_;clear hX hY X Y|refine vB ?_|((first|refine vR tok (by rw [hnt];rfl) ?_|refine vC fun X Y hX hY=>?_|refine vK ?_|refine vT ?_|refine vF [] ?_|(apply gC<;>intro hq<;>(try simp only [nT,nF,n1,n0] at hq)<;>(have hb:=hq)<;>(try simp only [dT,dF,eT,eF] at hb)<;>first|(exfalso;omega)|((try simp only [hq]);clear hq)))<;>(try simp only [go_sem,qa,qb,qc,qd,qe,qf,qg,qh,qi,qj,qk,ql,qm,qn,qo,qp,qq,qr,qs,reduceIte,reduceCtorEq]))|clear hK K)
 all_goals try (first|omega|(simp only [dA,dB,dC];omega))
 all_goals try (first|(simp [-List.getD_eq_getElem?_getD,State.gotP, *];done)|(simp [-List.getD_eq_getElem?_getD,State.gotP, *];omega)|(simp [-List.getD_eq_getElem?_getD,State.gotP, *];intros;omega))
 refine AWp.loop (fun i:Nat=>⟨[(12,.o (.c (.t (intsT s.got)))),(13,.o (I s.got.length)),(14,.o (I i))],[],0⟩) (fun i=>i≤s.got.length∧rall i (fun i=>In (s.got.getD i 0) 0 2)=true) (fun i=>s.got.length - i) 0 ⟨Nat.zero_le _,rall_zero⟩ ?_ ?_
 · refine vL hk0 [] ?_;simp only [go_sem,qa,qb,qc,qd,qe,qf,qg,qh,qi,qj,qk,ql,qm,qn,qo,qp,qq,qr,qs,reduceIte,reduceCtorEq]
   simp
 intro i ⟨hi,hr⟩
 by_cases hg:0≤s.got.getD i 0∧s.got.getD i 0≤2
 · repeat' (first|refine vS fun K hK=>?_|refine hK _ ?_;clear hK K|refine hX ?_;clear hX hY X Y|refine hY ?_;clear hX hY X Y|refine vB ?_|((first|refine vR tok (by rw [hnt];rfl) ?_|refine vC fun X Y hX hY=>?_|refine vK ?_|refine vE ?_|refine vT ?_|refine vF [] ?_|refine runS_c [] (fateOf_ok _ hg) rfl ?_ ?_ ?_|refine vL hk0 [] ?_|(apply gC<;>intro hq<;>(try simp only [nT,nF,n1,n0] at hq)<;>(have hb:=hq)<;>(try simp only [dT,dF,eT,eF] at hb)<;>first|(exfalso;omega)|((try simp only [hq]);clear hq)))<;>(try simp only [go_sem,qa,qb,qc,qd,qe,qf,qg,qh,qi,qj,qk,ql,qm,qn,qo,qp,qq,qr,qs,reduceIte,reduceCtorEq]))|refine ⟨i+1,?_,?_,?_⟩|refine Fits.of ?_ ?_|refine aE ?_ fun hp=>?_|refine aC ?_ fun hp=>?_|refine And.intro ?_ ?_|clear hK K)
   all_goals try (first|omega|(simp only [dA,dB,dC];omega))
   all_goals try (refine rall_succ hr ?_;simp only [In_iff];exact hg)
   all_goals try (
     have hr2:rall s.got.length (fun i=>In (s.got.getD i 0) 0 2)=true:=by rw [show s.got.length=i from by omega];exact hr
     simp only [State.gotP,hr2]
     simp [-List.getD_eq_getElem?_getD, *]
     done)
 · repeat' (first|refine vS fun K hK=>?_|refine hK _ ?_;clear hK K|refine hX ?_;clear hX hY X Y|refine hY ?_;clear hX hY X Y|refine vB ?_|((first|refine vR tok (by rw [hnt];rfl) ?_|refine vC fun X Y hX hY=>?_|refine vK ?_|refine vE ?_|refine vT ?_|refine vF [] ?_|refine runS_c [] (fateOf_no _ hg) rfl ?_ ?_ ?_|(apply gC<;>intro hq<;>(try simp only [nT,nF,n1,n0] at hq)<;>(have hb:=hq)<;>(try simp only [dT,dF,eT,eF] at hb)<;>first|(exfalso;omega)|((try simp only [hq]);clear hq)))<;>(try simp only [go_sem,qa,qb,qc,qd,qe,qf,qg,qh,qi,qj,qk,ql,qm,qn,qo,qp,qq,qr,qs,reduceIte,reduceCtorEq]))|refine aE ?_ fun hp=>?_|refine aC ?_ fun hp=>?_|clear hK K)
   all_goals try (first|omega|(simp only [dA,dB,dC];omega))
   all_goals try (
     have h0:In (s.got.getD i 0) 0 2=false:=by
       cases e:In (s.got.getD i 0) 0 2
       · rfl
       · exact absurd (In_iff.1 e) hg
     have h9:=rall_false (p:=fun i=>In (s.got.getD i 0) 0 2) (i:=i) (n:=s.got.length) (by omega) h0
     simp only [State.gotP,h9];simp;done)
   all_goals try (
     have hr2:rall s.got.length (fun i=>In (s.got.getD i 0) 0 2)=true:=by rw [show s.got.length=i from by omega];exact hr
     simp only [State.gotP,hr2]
     simp [-List.getD_eq_getElem?_getD, *]
     done)
theorem state_parts (s:State):s.ok=(In s.way 0 4 && (In s.ver 1 9 && ((s.sentP && s.gotP) && (bif decide (s.way=4) then decide (s.want=s.ver+1) && decide (s.want≤9) else decide (s.want=0))))):=by
 unfold State.ok State.sentP State.gotP
 cases In s.way 0 4<;>cases In s.ver 1 9<;>cases decide ((s.sent.length:Int)≤8)<;>cases decide ((s.live.length:Int)=s.sent.length)<;>cases decide ((s.back.length:Int)=s.sent.length)<;>cases decide ((s.got.length:Int)=8)<;>simp [Bool.and_assoc]
theorem iStateOk_ok (s:State) (hs:s.small):Call Try.prog 27 [s.av] [] 0 (.o (BB s.ok)) [] 0:=by
 refine vO tok Try.func27 rfl rfl Try.ntmps27 Try.results27 rfl (by decide) (fun cx hnt hk0=>?_)
 repeat' (first|refine vS fun K hK=>?_|refine hK _ ?_;clear hK K|refine hX ?_;clear hX hY X Y|refine hY ?_;clear hX hY X Y|((first|refine vR tok (by rw [hnt];rfl) ?_|refine vC fun X Y hX hY=>?_|refine vK ?_|refine vT ?_|refine vF [] ?_|refine runS_c [] (iSentOk_ok s hs.1) rfl ?_ ?_ ?_|refine runS_c [] (iGotOk_ok s hs.2) rfl ?_ ?_ ?_|((first|apply gR|apply gC)<;>intro hq<;>(try simp only [nT,nF,n1,n0] at hq)<;>(have hb:=hq)<;>(try simp only [dT,dF,eT,eF] at hb)<;>first|(exfalso;omega)|((try simp only [hq]);clear hq)))<;>(try simp only [go_sem,qa,qb,qc,qd,qe,qf,qg,qh,qi,qj,qk,ql,qm,qn,qo,qp,qq,qr,qs,reduceIte,reduceCtorEq]))|refine Fits.of ?_ ?_|refine And.intro ?_ ?_|clear hK K)
 all_goals try (first|omega|(simp only [dA,dB,dC];omega))
 all_goals try (
   cases e:s.ok
   · rfl
   · exfalso
     obtain ⟨r1,r2,r3,r4,r5,r6,r7,r8,r9⟩:=state_ok e
     split at r9<;>omega)
 all_goals rw [state_parts]
 all_goals try (simp [-List.getD_eq_getElem?_getD,In, *];done)
 all_goals try (
   have i1:In s.way 0 4=true:=In_iff.2 (by omega)
   have i2:In s.ver 1 9=true:=In_iff.2 (by omega)
   have i3:s.want≤9:=by omega
   rw [i1,i2]
   simp [-List.getD_eq_getElem?_getD, *]
   try omega
   done)
theorem knowOk_of {l:List Int} {j:Nat} (hr:rall j (knowOk l)=true) (h1:¬ l.getD j 0≤prevK l j) (h2:¬ 90 < l.getD j 0):knowOk l j=true:=by
 cases j with
 | zero =>
   simp only [prevK] at h1
   unfold knowOk
   rw [In_iff.2 (by omega)];simp
 | succ k =>
   have h3:=rall_iff.1 hr k (by omega)
   simp only [knowOk,Bool.and_eq_true,In_iff] at h3
   simp only [prevK] at h1
   have e:(((k+1:Nat):Int) - 1).toNat=k:=by omega
   unfold knowOk
   rw [e,In_iff.2 (by omega)]
   simp only [Bool.true_and,Bool.not_eq_true',Bool.and_eq_false_iff,decide_eq_false_iff_not]
   omega
theorem iChainOk_ok (c:Chain) (hs:c.small):Call Try.prog 26 [c.av] [] 0 (.o (BB c.ok)) [] 0:=by
 obtain ⟨s1,s2,s3,s4,s5,s6,s7⟩:=hs
 refine vO tok Try.func26 rfl rfl Try.ntmps26 Try.results26 rfl (by decide) (fun cx hnt hk0=>?_)
 repeat' (first|refine vS fun K hK=>?_|refine hK _ ?_;clear hK K|refine hX ?_;clear hX hY X Y|refine hY ?_;clear hX hY X Y|refine vB ?_|((first|refine vR tok (by rw [hnt];rfl) ?_|refine vC fun X Y hX hY=>?_|refine vK ?_|refine vT ?_|refine vF [] ?_|refine runS_c [] (iBankOk_ok c.bank s1 s2 s3) rfl ?_ ?_ ?_|refine runS_c [] (iStateOk_ok c.state s4) rfl ?_ ?_ ?_|((first|apply gR|apply gC)<;>intro hq<;>(try simp only [nT,nF,n1,n0] at hq)<;>(have hb:=hq)<;>(try simp only [dT,dF,eT,eF] at hb)<;>first|(exfalso;omega)|((try simp only [hq]);clear hq)))<;>(try simp only [go_sem,qa,qb,qc,qd,qe,qf,qg,qh,qi,qj,qk,ql,qm,qn,qo,qp,qq,qr,qs,reduceIte,reduceCtorEq]))|clear hK K)
 all_goals try (first|omega|(simp only [dA,dB,dC];omega))
 all_goals try (first|(simp [-List.getD_eq_getElem?_getD,Chain.ok, *];done)|(simp [-List.getD_eq_getElem?_getD,Chain.ok, *];omega)|(simp [-List.getD_eq_getElem?_getD,Chain.ok, *];intros;omega))
 all_goals try (
   cases e:c.ok
   · rfl
   · exfalso;obtain ⟨g1,_⟩:=chain_ok e;omega)
 all_goals
   refine AWp.loop (fun k:Nat=>⟨[(1,.o (.c (.ptr 0 0 0 0))),(35,.o (.c (.t (statesT c.past)))),(36,.o (I c.past.length)),(37,.o (I k))],[(0,c.box)],1⟩) (fun k=>k≤c.past.length∧rall k (fun i=>(c.past.getD i default).ok)=true) (fun k=>c.past.length - k) 0 ⟨Nat.zero_le _,rall_zero⟩ ?_ ?_
   · refine vL hk0 [] ?_;simp only [go_sem,qa,qb,qc,qd,qe,qf,qg,qh,qi,qj,qk,ql,qm,qn,qo,qp,qq,qr,qs,reduceIte,reduceCtorEq]
     simp
   intro i ⟨hi,hr⟩
   repeat' (first|refine vS fun K hK=>?_|refine hK _ ?_;clear hK K|refine hX ?_;clear hX hY X Y|refine hY ?_;clear hX hY X Y|refine vB ?_|((first|refine vR tok (by rw [hnt];rfl) ?_|refine vC fun X Y hX hY=>?_|refine vK ?_|refine vE ?_|refine vT ?_|refine vF [] ?_|(refine runS_c [] (iStateOk_ok (c.past.getD i default) (s6 i)) rfl ?_ ?_ ?_)|refine vL hk0 [] ?_|(apply gC<;>intro hq<;>(try simp only [nT,nF,n1,n0] at hq)<;>(have hb:=hq)<;>(try simp only [dT,dF,eT,eF] at hb)<;>first|(exfalso;omega)|((try simp only [hq]);clear hq)))<;>(try simp only [go_sem,qa,qb,qc,qd,qe,qf,qg,qh,qi,qj,qk,ql,qm,qn,qo,qp,qq,qr,qs,reduceIte,reduceCtorEq]))|refine ⟨i+1,?_,?_,?_⟩|refine Fits.of ?_ ?_|refine aE ?_ fun hp=>?_|refine aC ?_ fun hp=>?_|refine And.intro ?_ ?_|clear hK K)
   all_goals try (first|omega|(simp only [dA,dB,dC];omega))
   all_goals try (
     have h9:=rall_false (p:=fun i=>(c.past.getD i default).ok) (i:=i) (n:=c.past.length) (by omega) (by simpa using hb)
     simp only [Chain.ok,h9];simp;done)
   all_goals try exact rall_succ hr (by simpa using hb)
   have hr2:rall c.past.length (fun i=>(c.past.getD i default).ok)=true:=by rw [show c.past.length=i from by omega];exact hr
   refine AWp.loop (fun k:Nat=>⟨[(1,.o (.c (.ptr 0 0 0 0))),(5,.o (I (prevK c.knows k))),(46,.o (.c (.t (intsT c.knows)))),(47,.o (I c.knows.length)),(48,.o (I k))],[(0,c.box)],1⟩) (fun k=>k≤c.knows.length∧rall k (knowOk c.knows)=true) (fun k=>c.knows.length - k) 0 ⟨Nat.zero_le _,rall_zero⟩ ?_ ?_
   · refine vL hk0 [] ?_;simp only [go_sem,qa,qb,qc,qd,qe,qf,qg,qh,qi,qj,qk,ql,qm,qn,qo,qp,qq,qr,qs,reduceIte,reduceCtorEq,prevK_zero]
     all_goals first|rfl|simp
   intro j ⟨hj,hrj⟩
   repeat' (first|refine vS fun K hK=>?_|refine hK _ ?_;clear hK K|refine hX ?_;clear hX hY X Y|refine hY ?_;clear hX hY X Y|refine vB ?_|((first|refine vR tok (by rw [hnt];rfl) ?_|refine vC fun X Y hX hY=>?_|refine vK ?_|refine vE ?_|refine vT ?_|refine vF [] ?_|refine vL hk0 [] ?_|((first|apply gR|apply gC)<;>intro hq<;>(try simp only [nT,nF,n1,n0] at hq)<;>(have hb:=hq)<;>(try simp only [dT,dF,eT,eF] at hb)<;>first|(exfalso;omega)|((try simp only [hq]);clear hq)))<;>(try simp only [go_sem,qa,qb,qc,qd,qe,qf,qg,qh,qi,qj,qk,ql,qm,qn,qo,qp,qq,qr,qs,reduceIte,reduceCtorEq,prevK_succ]))|refine ⟨j+1,?_,?_,?_⟩|refine Fits.of ?_ ?_|refine aE ?_ fun hp=>?_|refine aC ?_ fun hp=>?_|refine And.intro ?_ ?_|clear hK K)
   all_goals try (first|omega|(simp only [dA,dB,dC];omega))
   all_goals try (refine rall_succ hrj (knowOk_of hrj ?_ ?_)<;>assumption)
   all_goals try (
     cases e:c.ok
     · rfl
     · exfalso
       obtain ⟨g1,g2,g3,g4,g5,g6⟩:=chain_ok e
       have k:=prevK_lt (g6 j (by omega))
       omega)
   have hr3:rall c.knows.length (knowOk c.knows)=true:=by rw [show c.knows.length=j from by omega];exact hrj
   have h8:(c.past.length:Int)≤90:=by omega
   have i1:In c.id 1 2=true:=In_iff.2 (by omega)
   simp only [Chain.ok,hr2,hr3,i1]
   simp [-List.getD_eq_getElem?_getD, *]
theorem bankCopy_ok (b:Bank) (h1:b.own.length≤1000) (h2:b.notes.length≤1000):Call Try.prog 63 [b.av] [] 0 (.o (.g (bankA b 0))) (bankH b 0) 2:=by
 refine vO tok Try.func63 rfl rfl Try.ntmps63 Try.results63 rfl (by decide) (fun cx hnt hk0=>?_)

 repeat' (first|refine vS fun K hK=>?_|refine hK _ ?_;clear hK K|((first|refine vR tok (by rw [hnt];rfl) ?_|refine vT ?_|refine vF [] ?_|(refine AWp.draw (id:=1) tok mixed (.tak 0 (.tak 1 (.tak 3 (.tak 4 (.tak 6 (.tak 7 (.all (.cons 2 (.all (.cons 5 (.all (.cons 8 (.all (.cons 9 .done .nil)) .nil)) .nil)) .nil)))))))) [0] [1,2] (by kernel_rfl) (by kernel_rfl) (by rw [hnt];rfl) ?_)|refine effS_c [] (freshI_ok b.own h1) rfl ?_ ?_ ?_|(refine effS_c [] (freshI_ok b.notes h2) rfl ?_ ?_ ?_))<;>(try simp only [go_sem,qa,qb,qc,qd,qe,qf,qg,qh,qi,qj,qk,ql,qm,qn,qo,qp,qq,qr,qs,reduceIte,reduceCtorEq])))
 all_goals first|omega
theorem record_tree (c:Chain) (s:State) (hs:s.ok=true) (hp:(c.past.length:Int) < 1000):Call Try.prog 66 [.c (.ptr 0 0 0 0),s.av] (linkH c 0 1) 8 (.tup []) (linkH { c with past:=c.past++[s] } 0 8) 15:=by
 obtain ⟨r1,r2,r3,r4,r5,r6,r7,r8,r9⟩:=state_ok hs
 refine vO tok Try.func66 rfl rfl Try.ntmps66 Try.results66 rfl (by decide) (fun cx hnt hk0=>?_)


 repeat' (first|refine vS fun K hK=>?_|refine hK _ ?_;clear hK K|((first|refine vR tok (by rw [hnt];rfl) ?_|refine vF [9,10,11,12,13] ?_|(refine AWp.draw (id:=1) tok mixed (.tak 0 (.tak 1 (.tak 3 (.tak 4 (.tak 5 (.all (.cons 2 (.all (.cons 6 (.all (.cons 7 (.all (.cons 8 (.tak 9 (.tak 10 (.all (.cons 11 .done .nil)))) .nil)) .nil)) .nil)) (.cons 6 (.all (.cons 2 (.all (.cons 7 (.all (.cons 8 (.tak 9 (.tak 10 (.all (.cons 11 .done .nil)))) .nil)) .nil)) .nil)) .nil)))))))) [8] [0,3] (by kernel_rfl) (by kernel_rfl) (by rw [hnt];rfl) ?_)|(refine effS_c [] (stateCopy_ok s (by omega) (by omega) (by omega) (by omega)) rfl ?_ ?_ ?_))<;>(try simp only [go_sem,qa,qb,qc,qd,qe,qf,qg,qh,qi,qj,qk,ql,qm,qn,qo,qp,qq,qr,qs,reduceIte,reduceCtorEq,List.reverse_append,List.reverse_cons,List.reverse_nil,List.nil_append,List.cons_append]))|refine Fits.of ?_ ?_|refine And.intro ?_ ?_)
 all_goals first|omega
theorem linkOf_ok (c:Chain) (hc:c.ok=true):Call Try.prog 28 [c.av] [] 0 (.o (.c (.ptr 0 0 0 0))) (linkH c 0 1) 8:=by
 obtain ⟨q1,q2,q3,q4,q5,q6⟩:=chain_ok hc
 have q7:=knows_len q6
 obtain ⟨b1,b2,b3,b4,b5⟩:=bank_ok q2
 have b6:=parts_len b1
 have b7:=parts_len b2
 obtain ⟨r1,r2,r3,r4,r5,r6,r7,r8,r9⟩:=state_ok q3
 refine vO tok Try.func28 rfl rfl Try.ntmps28 Try.results28 rfl (by decide) (fun cx hnt hk0=>?_)

 repeat' (first|refine vS fun K hK=>?_|refine hK _ ?_;clear hK K|refine vB ?_|((first|refine vR tok (by rw [hnt];rfl) ?_|(refine AWp.draw (id:=1) tok mixed (.tak 0 (.tak 1 (.tak 3 (.tak 4 (.tak 5 (.tak 6 (.tak 8 (.tak 9 (.all (.cons 2 (.all (.cons 7 (.all (.cons 10 (.all (.cons 11 (.all (.cons 12 (.tak 13 .done) .nil)) .nil)) .nil)) .nil)) .nil)))))))))) [0] [1] (by kernel_rfl) (by kernel_rfl) (by rw [hnt];rfl) ?_)|(refine effS_c [] (bankCopy_ok c.bank (by omega) (by omega)) rfl ?_ ?_ ?_)|(refine effS_c [] (stateCopy_ok c.state (by omega) (by omega) (by omega) (by omega)) rfl ?_ ?_ ?_)|(refine effS_c [] (freshI_ok c.knows (by omega)) rfl ?_ ?_ ?_))<;>(try simp only [go_sem,qa,qb,qc,qd,qe,qf,qg,qh,qi,qj,qk,ql,qm,qn,qo,qp,qq,qr,qs,reduceIte,reduceCtorEq])))
 all_goals try omega
 have e0:({ c with past:=c.past.take 0 }:Chain)={ c with past:=[] }:=by simp
 refine AWp.loop (fun k:Nat=>⟨[(3,.o (.c (.ptr 8 0 0 0))),(20,.o (.c (.t (statesT c.past)))),(21,.o (I c.past.length)),(22,.o (I k))],linkH { c with past:=c.past.take k } 8 1,9⟩) (fun k=>k≤c.past.length) (fun k=>c.past.length - k) 0 (Nat.zero_le _) ?_ ?_
 · refine vL hk0 [] ?_;simp only [go_sem,qa,qb,qc,qd,qe,qf,qg,qh,qi,qj,qk,ql,qm,qn,qo,qp,qq,qr,qs,reduceIte,reduceCtorEq,List.take_zero,List.reverse_nil,List.length_nil]
   all_goals first|rfl|simp
 intro k hk
 have hk':k≤c.past.length:=hk
 have hl:(c.past.take k).length=k:=by rw [List.length_take];omega
 by_cases hlt:k < c.past.length
 · have e1:c.past.take (k+1)=c.past.take k++[c.past.getD k default]:=by
     rw [List.take_succ];simp [List.getD,hlt]
   have cR:=record_tree { c with past:=c.past.take k } (c.past.getD k default) (q5 k hlt) (by simp only [hl];omega)
   simp only [← e1] at cR
   repeat' (first|refine vS fun K hK=>?_|refine hK _ ?_;clear hK K|refine hX ?_;clear hX hY X Y|refine vB ?_|((first|refine vR tok (by rw [hnt];rfl) ?_|refine vC fun X Y hX hY=>?_|refine vK ?_|refine runS_c [8,1,2,3,4,5,6,7] (cR) rfl ?_ ?_ ?_|refine vL hk0 [] ?_|(apply gC<;>intro hq<;>(try simp only [nT,nF,n1,n0] at hq)<;>(have hb:=hq)<;>(try simp only [dT,dF,eT,eF] at hb)<;>first|(exfalso;omega)|((try simp only [hq]);clear hq)))<;>(try simp only [go_sem,qa,qb,qc,qd,qe,qf,qg,qh,qi,qj,qk,ql,qm,qn,qo,qp,qq,qr,qs,reduceIte,reduceCtorEq]))|refine ⟨k+1,?_,?_,?_⟩|refine Fits.of ?_ ?_|refine aE ?_ fun hp=>?_|refine aC ?_ fun hp=>?_|refine And.intro ?_ ?_|clear hK K)
   all_goals first|(first|omega|(simp only [dA,dB,dC];omega))
 · obtain rfl:k=c.past.length:=by omega
   have e2:c.past.take c.past.length=c.past:=List.take_length
   rw [e2]
   repeat' (first|refine vS fun K hK=>?_|refine hK _ ?_;clear hK K|refine hY ?_;clear hX hY X Y|((first|refine vR tok (by rw [hnt];rfl) ?_|refine vC fun X Y hX hY=>?_|refine vE ?_|refine vT ?_|refine vF [] ?_|(apply gC<;>intro hq<;>(try simp only [nT,nF,n1,n0] at hq)<;>(have hb:=hq)<;>(try simp only [dT,dF,eT,eF] at hb)<;>first|(exfalso;omega)|((try simp only [hq]);clear hq)))<;>(try simp only [go_sem,qa,qb,qc,qd,qe,qf,qg,qh,qi,qj,qk,ql,qm,qn,qo,qp,qq,qr,qs,reduceIte,reduceCtorEq]))|clear hK K)
   all_goals first|omega
def Bank.giveB (b:Bank) (kind dst sum:Int):Bool:=b.ok && (In kind 1 2 && (In dst 1 3 && (decide (0≤sum) && (decide (sum≤30) && b.backB kind dst sum))))
theorem In12_no {kind:Int} (h1:¬ kind=1) (h2:¬ kind=2):In kind 1 2=false:=by
 cases h:In kind 1 2 with
 | false=>rfl
 | true=>rw [In_iff] at h;omega
theorem iBankBack_no (b:Bank) (kind dst sum:Int) (h1:b.own.length≤1000) (h2:b.notes.length≤1000) (h3:b.locked < 1099511627776) (h:b.giveB kind dst sum=false) :
   Call Try.prog 95 [b.av,I kind,I dst,I sum] [] 0 (.tup [.g (bankA Bank.none 0),BB false]) (bankH Bank.none 0) 2:=by
 by_cases hg:b.ok=true∧In kind 1 2=true∧In dst 1 3=true∧0≤sum∧sum≤30
 · obtain ⟨gb,gk,gs,g0,g30⟩:=hg
   obtain ⟨q1,q2,q3,q4,q5⟩:=bank_ok gb
   have q6:=parts_len q1
   have q7:=parts_len q2
   have p4:=parts_all q2
   have gA:(kind=1∧b.locked < sum) ∨ (kind=2∧30 < isum b.notes+sum):=by
     simp only [Bank.giveB,gb,gk,gs,Bool.true_and,decide_eq_true g0,decide_eq_true g30] at h
     unfold Bank.backB at h
     rw [Bool.not_eq_false',Bool.or_eq_true,Bool.and_eq_true,Bool.and_eq_true] at h
     rcases h with ⟨a,b⟩|⟨a,b⟩
     · exact .inl ⟨of_decide_eq_true a,of_decide_eq_true b⟩
     · exact .inr ⟨of_decide_eq_true a,of_decide_eq_true b⟩
   have gs':=gs
   rw [In_iff] at gk gs'
   by_cases hd:kind=1
   · have gA:b.locked < sum:=by omega
     refine vO tok Try.func95 rfl rfl Try.ntmps95 Try.results95 rfl (by decide) (fun cx hnt hk0=>?_)
     repeat' (first|refine vS fun K hK=>?_|refine hK _ ?_;clear hK K|refine hX ?_;clear hX hY X Y|refine hY ?_;clear hX hY X Y|((first|refine vR tok (by rw [hnt];rfl) ?_|refine vC fun X Y hX hY=>?_|refine vK ?_|refine vT ?_|refine vF [] ?_|(refine runS_c [] (iBankOk_ok b (by omega) (by omega) h3) rfl ?_ ?_ ?_)|refine runS_c [] (userOk_ok _) rfl ?_ ?_ ?_|refine runS_c [] (coinsOf_own kind hd) rfl ?_ ?_ ?_|refine runS_c [] (ledgerOf_ok b q6 q7) rfl ?_ ?_ ?_|((first|apply gR|apply gC)<;>intro hq<;>(try simp only [nT,nF,n1,n0] at hq)<;>(have hb:=hq)<;>(try simp only [dT,dF,eT,eF] at hb)<;>first|(exfalso;omega)|((try simp only [hq]);clear hq)))<;>(try simp only [go_sem,qa,qb,qc,qd,qe,qf,qg,qh,qi,qj,qk,ql,qm,qn,qo,qp,qq,qr,qs,reduceIte,reduceCtorEq,gb,gs,Bank.none])))
     all_goals try omega
   · have gA:30 < isum b.notes+sum:=by omega
     refine vO tok Try.func95 rfl rfl Try.ntmps95 Try.results95 rfl (by decide) (fun cx hnt hk0=>?_)
     repeat' (first|refine vS fun K hK=>?_|refine hK _ ?_;clear hK K|refine hX ?_;clear hX hY X Y|refine hY ?_;clear hX hY X Y|((first|refine vR tok (by rw [hnt];rfl) ?_|refine vC fun X Y hX hY=>?_|refine vK ?_|refine vT ?_|refine vF [] ?_|(refine runS_c [] (iBankOk_ok b (by omega) (by omega) h3) rfl ?_ ?_ ?_)|refine runS_c [] (userOk_ok _) rfl ?_ ?_ ?_|(refine runS_c [] (coinsOf_note kind (by omega)) rfl ?_ ?_ ?_)|refine runS_c [] (ledgerOf_ok b q6 q7) rfl ?_ ?_ ?_|(refine runS_c [] (amountTotal_ok b.notes (by omega)) rfl ?_ ?_ ?_)|((first|apply gR|apply gC)<;>intro hq<;>(try simp only [nT,nF,n1,n0] at hq)<;>(have hb:=hq)<;>(try simp only [dT,dF,eT,eF] at hb)<;>first|(exfalso;omega)|((try simp only [hq]);clear hq)))<;>(try simp only [go_sem,qa,qb,qc,qd,qe,qf,qg,qh,qi,qj,qk,ql,qm,qn,qo,qp,qq,qr,qs,reduceIte,reduceCtorEq,gb,gs,q2,if_true,Bank.none]))|refine Fits.of ?_ ?_|refine And.intro ?_ ?_|clear hK K)
     all_goals try omega
 · by_cases hk1:kind=1
   · have gk:In kind 1 2=true:=by rw [In_iff];omega
     refine vO tok Try.func95 rfl rfl Try.ntmps95 Try.results95 rfl (by decide) (fun cx hnt hk0=>?_)
     repeat' (first|refine vS fun K hK=>?_|refine hK _ ?_;clear hK K|refine hX ?_;clear hX hY X Y|refine hY ?_;clear hX hY X Y|((first|refine vR tok (by rw [hnt];rfl) ?_|refine vC fun X Y hX hY=>?_|refine vK ?_|refine vT ?_|refine vF [] ?_|(refine runS_c [] (iBankOk_ok b (by omega) (by omega) h3) rfl ?_ ?_ ?_)|refine runS_c [] (userOk_ok _) rfl ?_ ?_ ?_|refine runS_c [] (coinsOf_own kind hk1) rfl ?_ ?_ ?_|((first|apply gR|apply gC)<;>intro hq<;>(try simp only [nT,nF,n1,n0] at hq)<;>(have hb:=hq)<;>(try simp only [dT,dF,eT,eF] at hb)<;>first|(exfalso;omega)|((try simp only [hq]);clear hq)))<;>(try simp only [go_sem,qa,qb,qc,qd,qe,qf,qg,qh,qi,qj,qk,ql,qm,qn,qo,qp,qq,qr,qs,reduceIte,reduceCtorEq,Bank.none])))
     all_goals exact absurd ⟨by assumption,gk,by assumption,by omega,by omega⟩ hg
   · by_cases hk2:kind=2
     · have gk:In kind 1 2=true:=by rw [In_iff];omega
       refine vO tok Try.func95 rfl rfl Try.ntmps95 Try.results95 rfl (by decide) (fun cx hnt hk0=>?_)
       repeat' (first|refine vS fun K hK=>?_|refine hK _ ?_;clear hK K|refine hX ?_;clear hX hY X Y|refine hY ?_;clear hX hY X Y|((first|refine vR tok (by rw [hnt];rfl) ?_|refine vC fun X Y hX hY=>?_|refine vK ?_|refine vT ?_|refine vF [] ?_|(refine runS_c [] (iBankOk_ok b (by omega) (by omega) h3) rfl ?_ ?_ ?_)|refine runS_c [] (userOk_ok _) rfl ?_ ?_ ?_|refine runS_c [] (coinsOf_note kind hk2) rfl ?_ ?_ ?_|((first|apply gR|apply gC)<;>intro hq<;>(try simp only [nT,nF,n1,n0] at hq)<;>(have hb:=hq)<;>(try simp only [dT,dF,eT,eF] at hb)<;>first|(exfalso;omega)|((try simp only [hq]);clear hq)))<;>(try simp only [go_sem,qa,qb,qc,qd,qe,qf,qg,qh,qi,qj,qk,ql,qm,qn,qo,qp,qq,qr,qs,reduceIte,reduceCtorEq,Bank.none])))
       all_goals exact absurd ⟨by assumption,gk,by assumption,by omega,by omega⟩ hg
     · refine vO tok Try.func95 rfl rfl Try.ntmps95 Try.results95 rfl (by decide) (fun cx hnt hk0=>?_)
       repeat' (first|refine vS fun K hK=>?_|refine hK _ ?_;clear hK K|refine hX ?_;clear hX hY X Y|((first|refine vR tok (by rw [hnt];rfl) ?_|refine vC fun X Y hX hY=>?_|refine vT ?_|refine vF [] ?_|(refine runS_c [] (coinsOf_none kind (In12_no hk1 hk2)) rfl ?_ ?_ ?_))<;>(try simp only [go_sem,qa,qb,qc,qd,qe,qf,qg,qh,qi,qj,qk,ql,qm,qn,qo,qp,qq,qr,qs,reduceIte,reduceCtorEq,Bank.none])))
theorem iBankBack_yes (b:Bank) (kind dst sum:Int) (h1:b.own.length≤1000) (h2:b.notes.length≤1000) (h3:b.locked < 1099511627776) (h:b.giveB kind dst sum=true) :
   Call Try.prog 95 [b.av,I kind,I dst,I sum] [] 0 (.tup [.g (bankA (b.backD kind dst sum) 0),BB true]) (bankH (b.backD kind dst sum) 0) 2:=by
 simp only [Bank.giveB,Bool.and_eq_true,decide_eq_true_eq] at h
 obtain ⟨gb,gk,gs,g0,g30,gA⟩:=h
 have gA:¬ (kind=1∧b.locked < sum)∧¬ (kind=2∧30 < isum b.notes+sum):=by
   simp [Bank.backB] at gA
   exact ⟨by omega,by omega⟩
 obtain ⟨q1,q2,q3,q4,q5⟩:=bank_ok gb
 have q6:=parts_len q1
 have q7:=parts_len q2
 have p4:=parts_all q2
 have gs':=gs
 rw [In_iff] at gk gs'
 have s1:=some_mE (l:=b.own) (k:=dst) (by omega) (by omega)
 have s2:=some_mE (l:=b.notes) (k:=dst) (by omega) (by omega)
 have l1:=lk_mE (l:=b.own) (k:=dst) (by omega) (by omega)
 have l2:=lk_mE (l:=b.notes) (k:=dst) (by omega) (by omega)
 have u1:=fun v=>upd_mE (l:=b.own) (k:=dst) (v:=v) (by omega) (by omega)
 have u2:=fun v=>upd_mE (l:=b.notes) (k:=dst) (v:=v) (by omega) (by omega)
 have p1:=parts_get q1 (dst - 1).toNat
 have p2:=parts_get q2 (dst - 1).toNat
 have p3:=parts_all q1
 have l3:(b.own.set (dst - 1).toNat (b.own.getD (dst - 1).toNat 0+sum)).length=3:=by rw [List.length_set,q6]
 have l4:(b.notes.set (dst - 1).toNat (b.notes.getD (dst - 1).toNat 0+sum)).length=3:=by rw [List.length_set,q7]
 by_cases hd:kind=1
 · have gA:¬ b.locked < sum:=fun a=>gA.1 ⟨hd,a⟩
   refine vO tok Try.func95 rfl rfl Try.ntmps95 Try.results95 rfl (by decide) (fun cx hnt hk0=>?_)
   repeat' (first|refine vS fun K hK=>?_|refine hK _ ?_;clear hK K|refine hX ?_;clear hX hY X Y|refine hY ?_;clear hX hY X Y|((first|refine vR tok (by rw [hnt];rfl) ?_|refine vC fun X Y hX hY=>?_|refine vK ?_|refine vT ?_|refine vF [] ?_|(refine runS_c [] (iBankOk_ok b (by omega) (by omega) h3) rfl ?_ ?_ ?_)|refine runS_c [] (userOk_ok _) rfl ?_ ?_ ?_|refine runS_c [] (coinsOf_own kind hd) rfl ?_ ?_ ?_|refine runS_c [] (ledgerOf_ok b q6 q7) rfl ?_ ?_ ?_|refine runS_c [2,3] (ownCoins_ok _) rfl ?_ ?_ ?_|(refine runS_c [2,3] (ledgerBank_ok ⟨b.own.set (dst - 1).toNat (b.own.getD (dst - 1).toNat 0+sum),b.notes,b.locked - sum⟩ l3 q7) rfl ?_ ?_ ?_)|((first|apply gR|apply gC)<;>intro hq<;>(try simp only [nT,nF,n1,n0] at hq)<;>(have hb:=hq)<;>(try simp only [dT,dF,eT,eF] at hb)<;>first|(exfalso;omega)|((try simp only [hq]);clear hq)))<;>(try simp only [go_sem,qa,qb,qc,qd,qe,qf,qg,qh,qi,qj,qk,ql,qm,qn,qo,qp,qq,qr,qs,reduceIte,reduceCtorEq,gb,gs,s1,l1,u1,Bank.backD,Bank.add,Bank.put,Bank.list,Bank.at,if_pos hd]))|refine Fits.of ?_ ?_|refine And.intro ?_ ?_|clear hK K)
   all_goals try omega
 · have gA:¬ 30 < isum b.notes+sum:=fun a=>gA.2 ⟨by omega,a⟩
   refine vO tok Try.func95 rfl rfl Try.ntmps95 Try.results95 rfl (by decide) (fun cx hnt hk0=>?_)
   repeat' (first|refine vS fun K hK=>?_|refine hK _ ?_;clear hK K|refine hY ?_;clear hX hY X Y|((first|refine vR tok (by rw [hnt];rfl) ?_|refine vC fun X Y hX hY=>?_|refine vK ?_|refine vT ?_|refine vF [] ?_|(refine runS_c [] (iBankOk_ok b (by omega) (by omega) h3) rfl ?_ ?_ ?_)|refine runS_c [] (userOk_ok _) rfl ?_ ?_ ?_|(refine runS_c [] (coinsOf_note kind (by omega)) rfl ?_ ?_ ?_)|refine runS_c [] (ledgerOf_ok b q6 q7) rfl ?_ ?_ ?_|refine runS_c [2,3] (noteCoins_ok _) rfl ?_ ?_ ?_|(refine runS_c [] (amountTotal_ok b.notes (by omega)) rfl ?_ ?_ ?_)|(refine runS_c [2,3] (ledgerBank_ok ⟨b.own,b.notes.set (dst - 1).toNat (b.notes.getD (dst - 1).toNat 0+sum),b.locked⟩ q6 l4) rfl ?_ ?_ ?_)|((first|apply gR|apply gC)<;>intro hq<;>(try simp only [nT,nF,n1,n0] at hq)<;>(have hb:=hq)<;>(try simp only [dT,dF,eT,eF] at hb)<;>first|(exfalso;omega)|((try simp only [hq]);clear hq)))<;>(try simp only [go_sem,qa,qb,qc,qd,qe,qf,qg,qh,qi,qj,qk,ql,qm,qn,qo,qp,qq,qr,qs,reduceIte,reduceCtorEq,gb,gs,s2,l2,u2,q2,if_true,Bank.backD,Bank.add,Bank.put,Bank.list,Bank.at,if_neg hd]))|refine Fits.of ?_ ?_|refine And.intro ?_ ?_|clear hK K)
   all_goals try omega
def pl_marksT_drop0:Plan:=(.tak 0 (.tak 1 (.tak 2 (.all (.cons 3 (.tak 4 (.tak 5 (.tak 6 (.tak 7 (.all (.cons 8 (.tak 9 (.tak 10 (.tak 11 (.tak 12 (.tak 13 (.tak 14 (.tak 15 (.tak 16 (.tak 17 (.tak 18 (.tak 19 (.tak 20 (.tak 21 (.tak 22 (.tak 23 (.tak 24 (.tak 25 (.tak 26 (.tak 27 (.tak 28 .done)))))))))))))))))))) .nil)))))) .nil)))))
attribute [go_sem] pl_marksT_drop0
def pl_marksT_drop1:Plan:=(.tak 0 (.tak 1 (.tak 2 (.tak 3 (.tak 4 (.tak 5 (.tak 6 (.tak 7 (.tak 8 (.tak 9 (.all (.cons 10 (.tak 11 (.tak 12 (.tak 13 (.all (.cons 14 (.all (.cons 15 (.tak 16 .done) .nil)) .nil))))) (.cons 14 (.all (.cons 10 (.tak 11 (.tak 12 (.tak 13 (.all (.cons 15 (.tak 16 .done) .nil))))) .nil)) .nil)))))))))))))
attribute [go_sem] pl_marksT_drop1
theorem marksT_drop (r:List State) (k:Nat) (h:k < r.length):marksT (r.drop k)=.ptr 8 (markF (r.getD k default) (r.drop (k+1))):=by
 rw [List.drop_eq_getElem_cons h,marksT_cons]
 simp [List.getD,h]
def proofA (s:State) (h:Int):A1:=.g [.t (s.tv 0),.t (s.tv 1),.t (s.tv 2),.t (s.tv 3),.t (s.tv 4),.t (s.tv 5),.t (s.tv 6),.t (.v (.int .i64 h))]
attribute [go_sem] proofA
theorem refund_ok (c:Chain) (seq:Int) (hb1:c.bank.ok=true) (h1:1≤seq∧seq≤c.state.sent.length) (h2:c.state.back.length=c.state.sent.length) (h3:c.state.sent.length≤8) (hp:(c.sentAt seq).ok=true) :
   Call Try.prog 67 [.c (.ptr 0 0 0 0),I seq] (linkH c 0 1) 8 (.tup []) (linkH { c with bank:=c.bank.refund (c.sentAt seq),state:={ c.state with back:=c.state.back.set (seq - 1).toNat true } } 0 8) 15:=by
 obtain ⟨a1,a2,a3,a4,a5,a6,a7⟩:=packet_iff.1 hp
 obtain ⟨q1,q2,q3,q4,q5⟩:=bank_ok hb1
 have q6:=parts_len q1
 have q7:=parts_len q2
 have q8:=parts_all q1
 have hg:c.bank.giveB (c.sentAt seq).kind (c.sentAt seq).src (c.sentAt seq).sum=c.bank.backB (c.sentAt seq).kind (c.sentAt seq).src (c.sentAt seq).sum:=by
   unfold Bank.giveB
   rw [hb1,In_iff.2 a2,In_iff.2 a3,decide_eq_true (show 0≤(c.sentAt seq).sum by omega),decide_eq_true (show (c.sentAt seq).sum≤30 by omega)]
   rfl
 unfold Bank.refund Bank.back
 have es:c.state.sent.getD (seq - 1).toNat default=c.sentAt seq:=rfl
 cases hB:c.bank.backB (c.sentAt seq).kind (c.sentAt seq).src (c.sentAt seq).sum
 · rw [hB] at hg
   refine vO tok Try.func67 rfl rfl Try.ntmps67 Try.results67 rfl (by decide) (fun cx hnt hk0=>?_)

   repeat' (first|refine vS fun K hK=>?_|refine hK _ ?_;clear hK K|refine hY ?_;clear hX hY X Y|((first|refine vR tok (by rw [hnt];rfl) ?_|refine vC fun X Y hX hY=>?_|refine vK ?_|refine vF [] ?_|(refine AWp.draw (id:=2) tok mixed pl_marksT_drop1 [0,8] [0,4] (by kernel_rfl) (by kernel_rfl) (by rw [hnt];rfl) ?_)|(refine effS_v [] (iBankBack_no c.bank _ _ _ (by omega) (by omega) (by omega) hg) ?_ ?_ ?_ ?_ ?_))<;>(try simp only [go_sem,qa,qb,qc,qd,qe,qf,qg,qh,qi,qj,qk,ql,qm,qn,qo,qp,qq,qr,qs,reduceIte,reduceCtorEq,es,Bool.false_eq_true,if_false]))|refine Fits.of ?_ ?_|(refine aL ?_ (fun hp=>?_)<;>((try simp only [rowSet_fI hp,rowSet_fI2 hp]);(try simp only [rowSet_fB hp])))|refine aE ?_ fun hp=>?_|refine aC ?_ fun hp=>?_|refine And.intro ?_ ?_|clear hK K)
   all_goals try omega
 · rw [hB] at hg
   refine vO tok Try.func67 rfl rfl Try.ntmps67 Try.results67 rfl (by decide) (fun cx hnt hk0=>?_)

   repeat' (first|refine vS fun K hK=>?_|refine hK _ ?_;clear hK K|refine hX ?_;clear hX hY X Y|((first|refine vR tok (by rw [hnt];rfl) ?_|refine vC fun X Y hX hY=>?_|refine vF [] ?_|(refine AWp.draw (id:=2) tok mixed pl_marksT_drop1 [0,8] [0,4] (by kernel_rfl) (by kernel_rfl) (by rw [hnt];rfl) ?_)|(refine effS_v [] (iBankBack_yes c.bank _ _ _ (by omega) (by omega) (by omega) hg) ?_ ?_ ?_ ?_ ?_))<;>(try simp only [go_sem,qa,qb,qc,qd,qe,qf,qg,qh,qi,qj,qk,ql,qm,qn,qo,qp,qq,qr,qs,reduceIte,reduceCtorEq,es,if_true]))|refine Fits.of ?_ ?_|(refine aL ?_ (fun hp=>?_)<;>((try simp only [rowSet_fI hp,rowSet_fI2 hp]);(try simp only [rowSet_fB hp])))|refine aE ?_ fun hp=>?_|refine aC ?_ fun hp=>?_|refine And.intro ?_ ?_|clear hK K)
   all_goals try omega
def isT:Cell→Bool
 | .t _=>true
 | _=>false
theorem rle_isT {H:Heap} {fz:Nat→Prop} {τ:List (Nat × Nat)} {N wd n:Nat} {f:Nat→Nat→Cell} (h:∀ i,i < n→∀ j,j < wd→isT (f i j)=true):rle H fz τ N wd n f f:=by
 intro i hi j hj
 have:=h i hi j hj
 cases e:f i j with
 | t x=>simp [cle_t,tof_t,tle_refl]
 | _=>rw [e] at this;cases this
def pl_mine_settled0:Plan:=(.tak 0 (.tak 1 (.tak 2 (.tak 3 (.tak 4 (.all (.cons 5 (.tak 6 (.tak 7 (.tak 8 (.tak 9 (.tak 10 (.tak 11 (.tak 12 (.tak 13 (.tak 14 (.tak 15 (.tak 16 (.tak 17 (.tak 18 (.all (.cons 19 (.tak 20 (.tak 21 .done)) .nil))))))))))))))) .nil)))))))
attribute [go_sem] pl_mine_settled0
theorem mine_settled {c:Chain} {seq:Int}:c.state.settledV seq=1 ↔ c.mine seq=true:=by
 unfold State.settledV Chain.mine
 by_cases h:In seq 1 c.state.sent.length=true
 · rw [if_pos h,h,Bool.true_and]
   cases h1:c.state.live.getD (seq - 1).toNat false
   · cases h2:c.state.back.getD (seq - 1).toNat false<;>simp
   · simp
 · rw [if_neg h]
   have:In seq 1 c.state.sent.length=false:=by simpa using h
   rw [this];simp
theorem mayTell_ok (c:Chain) (s:State) (h seq:Int) (hc:c.state.ok=true) (hs:s.ok=true):Call Try.prog 45 [.c (.ptr 0 0 0 0),proofA s h,I seq] (linkH c 0 1) 8 (.o (BB (c.tellB s seq))) (linkH c 0 1) 8:=by
 obtain ⟨r1,r2,r3,r4,r5,r6,r7,r8,r9⟩:=state_ok hc
 obtain ⟨u1,u2,u3,u4,u5,u6,u7,u8,u9⟩:=state_ok hs
 unfold Chain.tellB
 have cS:=StateSettled_yes c.state seq hc
 cases hm:c.mine seq
 · have e:¬ c.state.settledV seq=1:=by rw [mine_settled,hm];simp
   refine vO tok Try.func45 rfl rfl Try.ntmps45 Try.results45 rfl (by decide) (fun cx hnt hk0=>?_)
   repeat' (first|refine vS fun K hK=>?_|refine hK _ ?_;clear hK K|((first|refine vR tok (by rw [hnt];rfl) ?_|refine vT ?_|refine vF [] ?_|refine runS_v [] (cS) ?_ ?_ ?_ ?_ ?_|(apply gR<;>intro hq<;>(try simp only [nT,nF,n1,n0] at hq)<;>(have hb:=hq)<;>(try simp only [dT,dF,eT,eF] at hb)<;>first|(exfalso;omega)|((try simp only [hq]);clear hq)))<;>(try simp only [go_sem,qa,qb,qc,qd,qe,qf,qg,qh,qi,qj,qk,ql,qm,qn,qo,qp,qq,qr,qs,reduceIte,reduceCtorEq])))
   all_goals try omega
   all_goals simp
 · have e:c.state.settledV seq=1:=mine_settled.2 hm
   have hi:1≤seq∧seq≤8:=by
     simp only [Chain.mine,Bool.and_eq_true,In_iff] at hm;omega
   have cF:=fateAt_ok s seq hs hi
   have hg:=u8 (seq - 1).toNat (by omega)
   rw [e] at cS
   rcases (show s.gotAt seq=0 ∨ s.gotAt seq=1 ∨ s.gotAt seq=2 by unfold State.gotAt;omega) with eg|eg|eg
   · rw [fateV_0 eg] at cF
     rw [eg]
     refine vO tok Try.func45 rfl rfl Try.ntmps45 Try.results45 rfl (by decide) (fun cx hnt hk0=>?_)
     repeat' (first|refine vS fun K hK=>?_|refine hK _ ?_;clear hK K|((first|refine vR tok (by rw [hnt];rfl) ?_|refine vT ?_|refine vF [] ?_|refine runS_v [] (cS) ?_ ?_ ?_ ?_ ?_|refine runS_c [] (cF) rfl ?_ ?_ ?_|(refine runS_c [] (settled_none) rfl ?_ ?_ ?_))<;>(try simp only [go_sem,qa,qb,qc,qd,qe,qf,qg,qh,qi,qj,qk,ql,qm,qn,qo,qp,qq,qr,qs,reduceIte,reduceCtorEq])))
     all_goals try omega
     all_goals simp
   · rw [fateV_1 eg] at cF
     rw [eg]
     refine vO tok Try.func45 rfl rfl Try.ntmps45 Try.results45 rfl (by decide) (fun cx hnt hk0=>?_)
     repeat' (first|refine vS fun K hK=>?_|refine hK _ ?_;clear hK K|((first|refine vR tok (by rw [hnt];rfl) ?_|refine vT ?_|refine vF [] ?_|refine runS_v [] (cS) ?_ ?_ ?_ ?_ ?_|refine runS_c [] (cF) rfl ?_ ?_ ?_|(refine runS_c [] (settled_ok) rfl ?_ ?_ ?_))<;>(try simp only [go_sem,qa,qb,qc,qd,qe,qf,qg,qh,qi,qj,qk,ql,qm,qn,qo,qp,qq,qr,qs,reduceIte,reduceCtorEq])))
     all_goals try omega
     all_goals simp
   · rw [fateV_2 eg] at cF
     rw [eg]
     refine vO tok Try.func45 rfl rfl Try.ntmps45 Try.results45 rfl (by decide) (fun cx hnt hk0=>?_)
     repeat' (first|refine vS fun K hK=>?_|refine hK _ ?_;clear hK K|((first|refine vR tok (by rw [hnt];rfl) ?_|refine vT ?_|refine vF [] ?_|refine runS_v [] (cS) ?_ ?_ ?_ ?_ ?_|refine runS_c [] (cF) rfl ?_ ?_ ?_|(refine runS_c [] (settled_bad) rfl ?_ ?_ ?_))<;>(try simp only [go_sem,qa,qb,qc,qd,qe,qf,qg,qh,qi,qj,qk,ql,qm,qn,qo,qp,qq,qr,qs,reduceIte,reduceCtorEq])))
     all_goals try omega
     all_goals simp
theorem mayLate_ok (c:Chain) (s:State) (h seq:Int) (hc:c.state.ok=true) (hs:s.ok=true):Call Try.prog 46 [.c (.ptr 0 0 0 0),proofA s h,I seq] (linkH c 0 1) 8 (.o (BB (c.lateB s h seq))) (linkH c 0 1) 8:=by
 obtain ⟨r1,r2,r3,r4,r5,r6,r7,r8,r9⟩:=state_ok hc
 obtain ⟨u1,u2,u3,u4,u5,u6,u7,u8,u9⟩:=state_ok hs
 unfold Chain.lateB
 have cS:=StateSettled_yes c.state seq hc
 cases hm:c.mine seq
 · have e:¬ c.state.settledV seq=1:=by rw [mine_settled,hm];simp
   refine vO tok Try.func46 rfl rfl Try.ntmps46 Try.results46 rfl (by decide) (fun cx hnt hk0=>?_)


   repeat' (first|refine vS fun K hK=>?_|refine hK _ ?_;clear hK K|refine hX ?_;clear hX hY X Y|((first|refine vR tok (by rw [hnt];rfl) ?_|refine vC fun X Y hX hY=>?_|refine vT ?_|refine vF [] ?_|(refine AWp.draw (id:=1) tok mixed pl_mine_settled0 [0,8] [0,2,4] (by kernel_rfl) (by kernel_rfl) (by rw [hnt];rfl) ?_)|refine effS_v [] (cS) ?_ ?_ ?_ ?_ ?_|(apply gT<;>intro hq<;>(try simp only [nT,nF,n1,n0] at hq)<;>(have hb:=hq)<;>(try simp only [dT,dF,eT,eF] at hb)<;>first|(exfalso;omega)|((try simp only [hq]);clear hq)))<;>(try simp only [go_sem,qa,qb,qc,qd,qe,qf,qg,qh,qi,qj,qk,ql,qm,qn,qo,qp,qq,qr,qs,reduceIte,reduceCtorEq])))
   all_goals try omega
   all_goals simp
 · have e:c.state.settledV seq=1:=mine_settled.2 hm
   have hi:1≤seq∧seq≤8∧seq≤c.state.sent.length:=by
     simp only [Chain.mine,Bool.and_eq_true,In_iff] at hm;omega
   have es:c.state.sent.getD (seq - 1).toNat default=c.sentAt seq:=rfl
   have cF:=fateAt_ok s seq hs (by omega)
   have hg:=u8 (seq - 1).toNat (by omega)
   rw [e] at cS
   by_cases ht:(c.sentAt seq).till≤h
   · rw [decide_eq_true ht]
     rcases (show s.gotAt seq=0 ∨ s.gotAt seq=1 ∨ s.gotAt seq=2 by unfold State.gotAt;omega) with eg|eg|eg
     · rw [fateV_0 eg] at cF
       rw [eg]
       refine vO tok Try.func46 rfl rfl Try.ntmps46 Try.results46 rfl (by decide) (fun cx hnt hk0=>?_)


       repeat' (first|refine vS fun K hK=>?_|refine hK _ ?_;clear hK K|refine hY ?_;clear hX hY X Y|((first|refine vR tok (by rw [hnt];rfl) ?_|refine vC fun X Y hX hY=>?_|refine vK ?_|refine vT ?_|refine vF [] ?_|refine runS_c [] (cF) rfl ?_ ?_ ?_|refine runS_c [] (settled_none) rfl ?_ ?_ ?_|(refine AWp.draw (id:=1) tok mixed pl_mine_settled0 [0,8] [0,2,4] (by kernel_rfl) (by kernel_rfl) (by rw [hnt];rfl) ?_)|refine effS_v [] (cS) ?_ ?_ ?_ ?_ ?_|(apply gC<;>intro hq<;>(try simp only [nT,nF,n1,n0] at hq)<;>(have hb:=hq)<;>(try simp only [dT,dF,eT,eF] at hb)<;>first|(exfalso;omega)|((try simp only [hq]);clear hq)))<;>(try simp only [go_sem,qa,qb,qc,qd,qe,qf,qg,qh,qi,qj,qk,ql,qm,qn,qo,qp,qq,qr,qs,reduceIte,reduceCtorEq,es]))|refine Fits.of ?_ ?_|(refine aL ?_ (fun hp=>?_)<;>((try simp only [rowSet_fI hp,rowSet_fI2 hp]);(try simp only [rowSet_fB hp])))|refine aE ?_ fun hp=>?_|refine aC ?_ fun hp=>?_|refine And.intro ?_ ?_|clear hK K)
       all_goals try omega
       all_goals try simp
     · rw [fateV_1 eg] at cF
       rw [eg]
       refine vO tok Try.func46 rfl rfl Try.ntmps46 Try.results46 rfl (by decide) (fun cx hnt hk0=>?_)


       repeat' (first|refine vS fun K hK=>?_|refine hK _ ?_;clear hK K|refine hY ?_;clear hX hY X Y|((first|refine vR tok (by rw [hnt];rfl) ?_|refine vC fun X Y hX hY=>?_|refine vK ?_|refine vT ?_|refine vF [] ?_|refine runS_c [] (cF) rfl ?_ ?_ ?_|refine runS_c [] (settled_ok) rfl ?_ ?_ ?_|(refine AWp.draw (id:=1) tok mixed pl_mine_settled0 [0,8] [0,2,4] (by kernel_rfl) (by kernel_rfl) (by rw [hnt];rfl) ?_)|refine effS_v [] (cS) ?_ ?_ ?_ ?_ ?_|(apply gC<;>intro hq<;>(try simp only [nT,nF,n1,n0] at hq)<;>(have hb:=hq)<;>(try simp only [dT,dF,eT,eF] at hb)<;>first|(exfalso;omega)|((try simp only [hq]);clear hq)))<;>(try simp only [go_sem,qa,qb,qc,qd,qe,qf,qg,qh,qi,qj,qk,ql,qm,qn,qo,qp,qq,qr,qs,reduceIte,reduceCtorEq,es]))|refine Fits.of ?_ ?_|(refine aL ?_ (fun hp=>?_)<;>((try simp only [rowSet_fI hp,rowSet_fI2 hp]);(try simp only [rowSet_fB hp])))|refine aE ?_ fun hp=>?_|refine aC ?_ fun hp=>?_|refine And.intro ?_ ?_|clear hK K)
       all_goals try omega
       all_goals try simp
     · rw [fateV_2 eg] at cF
       rw [eg]
       refine vO tok Try.func46 rfl rfl Try.ntmps46 Try.results46 rfl (by decide) (fun cx hnt hk0=>?_)


       repeat' (first|refine vS fun K hK=>?_|refine hK _ ?_;clear hK K|refine hY ?_;clear hX hY X Y|((first|refine vR tok (by rw [hnt];rfl) ?_|refine vC fun X Y hX hY=>?_|refine vK ?_|refine vT ?_|refine vF [] ?_|refine runS_c [] (cF) rfl ?_ ?_ ?_|refine runS_c [] (settled_bad) rfl ?_ ?_ ?_|(refine AWp.draw (id:=1) tok mixed pl_mine_settled0 [0,8] [0,2,4] (by kernel_rfl) (by kernel_rfl) (by rw [hnt];rfl) ?_)|refine effS_v [] (cS) ?_ ?_ ?_ ?_ ?_|(apply gC<;>intro hq<;>(try simp only [nT,nF,n1,n0] at hq)<;>(have hb:=hq)<;>(try simp only [dT,dF,eT,eF] at hb)<;>first|(exfalso;omega)|((try simp only [hq]);clear hq)))<;>(try simp only [go_sem,qa,qb,qc,qd,qe,qf,qg,qh,qi,qj,qk,ql,qm,qn,qo,qp,qq,qr,qs,reduceIte,reduceCtorEq,es]))|refine Fits.of ?_ ?_|(refine aL ?_ (fun hp=>?_)<;>((try simp only [rowSet_fI hp,rowSet_fI2 hp]);(try simp only [rowSet_fB hp])))|refine aE ?_ fun hp=>?_|refine aC ?_ fun hp=>?_|refine And.intro ?_ ?_|clear hK K)
       all_goals try omega
       all_goals try simp
   · rw [decide_eq_false ht]
     refine vO tok Try.func46 rfl rfl Try.ntmps46 Try.results46 rfl (by decide) (fun cx hnt hk0=>?_)


     repeat' (first|refine vS fun K hK=>?_|refine hK _ ?_;clear hK K|refine hX ?_;clear hX hY X Y|((first|refine vR tok (by rw [hnt];rfl) ?_|refine vC fun X Y hX hY=>?_|refine vT ?_|refine vF [] ?_|(refine AWp.draw (id:=1) tok mixed pl_mine_settled0 [0,8] [0,2,4] (by kernel_rfl) (by kernel_rfl) (by rw [hnt];rfl) ?_)|refine effS_v [] (cS) ?_ ?_ ?_ ?_ ?_|(apply gC<;>intro hq<;>(try simp only [nT,nF,n1,n0] at hq)<;>(have hb:=hq)<;>(try simp only [dT,dF,eT,eF] at hb)<;>first|(exfalso;omega)|((try simp only [hq]);clear hq)))<;>(try simp only [go_sem,qa,qb,qc,qd,qe,qf,qg,qh,qi,qj,qk,ql,qm,qn,qo,qp,qq,qr,qs,reduceIte,reduceCtorEq,es]))|refine Fits.of ?_ ?_|(refine aL ?_ (fun hp=>?_)<;>((try simp only [rowSet_fI hp,rowSet_fI2 hp]);(try simp only [rowSet_fB hp])))|refine aE ?_ fun hp=>?_|refine aC ?_ fun hp=>?_|refine And.intro ?_ ?_|clear hK K)
     all_goals try omega
     all_goals try simp
theorem tell_ok2 (c:Chain) (s:State) (h seq:Int) (hc:c.ok=true) (hs:s.ok=true):Call Try.prog 34 [.c (.ptr 0 0 0 0),proofA s h,I seq] (linkH c 0 1) 8 (.o (BB (c.tellB s seq))) (linkH (c.tell s seq) 0 8) 15:=by
 obtain ⟨q1,q2,q3,q4,q5,q6⟩:=chain_ok hc
 obtain ⟨r1,r2,r3,r4,r5,r6,r7,r8,r9⟩:=state_ok q3
 obtain ⟨u1,u2,u3,u4,u5,u6,u7,u8,u9⟩:=state_ok hs
 have cM:=mayTell_ok c s h seq q3 hs
 unfold Chain.tell
 cases hB:c.tellB s seq
 · rw [hB] at cM
   refine vO tok Try.func34 rfl rfl Try.ntmps34 Try.results34 rfl (by decide) (fun cx hnt hk0=>?_)
   repeat' (first|refine vS fun K hK=>?_|refine hK _ ?_;clear hK K|refine hX ?_;clear hX hY X Y|((first|refine vR tok (by rw [hnt];rfl) ?_|refine vC fun X Y hX hY=>?_|refine vT ?_|refine vF [] ?_|(refine runS_c [0,1,2,3,4,5,6,7] (cM) rfl ?_ ?_ ?_))<;>(try simp only [go_sem,qa,qb,qc,qd,qe,qf,qg,qh,qi,qj,qk,ql,qm,qn,qo,qp,qq,qr,qs,reduceIte,reduceCtorEq,Bool.false_eq_true,if_false])))
 · rw [hB] at cM
   have hm:c.mine seq=true:=by
     simp only [Chain.tellB,Bool.and_eq_true] at hB;exact hB.1
   have hi:1≤seq∧seq≤c.state.sent.length:=by
     simp only [Chain.mine,Bool.and_eq_true,In_iff] at hm;exact hm.1
   have hpk:(c.sentAt seq).ok=true:=(sentOk_iff (r7 (seq - 1).toNat (by omega))).1
   have cG:=StateGot_yes s seq hs (by omega)
   have es2:∀ v:List Bool,Chain.sentAt { c with state:={ c.state with live:=v } } seq=c.sentAt seq:=fun _=>rfl
   have cR:=refund_ok { c with state:={ c.state with live:=c.state.live.set (seq - 1).toNat false } } seq q2 hi r5 r3 hpk
   by_cases hg:s.gotAt seq=2
   · rw [hg] at cG
     unfold Chain.settle
     rw [decide_eq_true hg]
     refine vO tok Try.func34 rfl rfl Try.ntmps34 Try.results34 rfl (by decide) (fun cx hnt hk0=>?_)
     repeat' (first|refine vS fun K hK=>?_|refine hK _ ?_;clear hK K|refine hX ?_;clear hX hY X Y|refine hY ?_;clear hX hY X Y|((first|refine vR tok (by rw [hnt];rfl) ?_|refine vC fun X Y hX hY=>?_|refine vK ?_|refine vT ?_|refine vF [] ?_|refine runS_c [0,1,2,3,4,5,6,7] (cM) rfl ?_ ?_ ?_|refine runS_c [] (cG) rfl ?_ ?_ ?_|(refine runS_c [0,1,2,3,4,5,6,7] (cR) rfl ?_ ?_ ?_))<;>(try simp only [go_sem,qa,qb,qc,qd,qe,qf,qg,qh,qi,qj,qk,ql,qm,qn,qo,qp,qq,qr,qs,reduceIte,reduceCtorEq,if_true,es2]))|refine Fits.of ?_ ?_|(refine aL ?_ (fun hp=>?_)<;>((try simp only [rowSet_fI hp,rowSet_fI2 hp]);(try simp only [rowSet_fB hp])))|refine aE ?_ fun hp=>?_|refine aC ?_ fun hp=>?_|refine And.intro ?_ ?_|clear hK K)
     all_goals try omega
   · unfold Chain.settle
     rw [decide_eq_false hg]
     refine vO tok Try.func34 rfl rfl Try.ntmps34 Try.results34 rfl (by decide) (fun cx hnt hk0=>?_)
     repeat' (first|refine vS fun K hK=>?_|refine hK _ ?_;clear hK K|refine hY ?_;clear hX hY X Y|((first|refine vR tok (by rw [hnt];rfl) ?_|refine vC fun X Y hX hY=>?_|refine vK ?_|refine vT ?_|refine vF [] ?_|refine runS_c [0,1,2,3,4,5,6,7] (cM) rfl ?_ ?_ ?_|refine runS_c [] (cG) rfl ?_ ?_ ?_|(apply gC<;>intro hq<;>(try simp only [nT,nF,n1,n0] at hq)<;>(have hb:=hq)<;>(try simp only [dT,dF,eT,eF] at hb)<;>first|(exfalso;omega)|((try simp only [hq]);clear hq)))<;>(try simp only [go_sem,qa,qb,qc,qd,qe,qf,qg,qh,qi,qj,qk,ql,qm,qn,qo,qp,qq,qr,qs,reduceIte,reduceCtorEq,Bool.false_eq_true,if_false,es2]))|refine Fits.of ?_ ?_|(refine aL ?_ (fun hp=>?_)<;>((try simp only [rowSet_fI hp,rowSet_fI2 hp]);(try simp only [rowSet_fB hp])))|refine aE ?_ fun hp=>?_|refine aC ?_ fun hp=>?_|refine And.intro ?_ ?_|clear hK K)
     all_goals try omega
theorem late_ok2 (c:Chain) (s:State) (h seq:Int) (hc:c.ok=true) (hs:s.ok=true):Call Try.prog 29 [.c (.ptr 0 0 0 0),proofA s h,I seq] (linkH c 0 1) 8 (.o (BB (c.lateB s h seq))) (linkH (c.late s h seq) 0 8) 15:=by
 obtain ⟨q1,q2,q3,q4,q5,q6⟩:=chain_ok hc
 obtain ⟨r1,r2,r3,r4,r5,r6,r7,r8,r9⟩:=state_ok q3
 have cM:=mayLate_ok c s h seq q3 hs
 unfold Chain.late
 cases hB:c.lateB s h seq
 · rw [hB] at cM
   refine vO tok Try.func29 rfl rfl Try.ntmps29 Try.results29 rfl (by decide) (fun cx hnt hk0=>?_)
   repeat' (first|refine vS fun K hK=>?_|refine hK _ ?_;clear hK K|refine hX ?_;clear hX hY X Y|((first|refine vR tok (by rw [hnt];rfl) ?_|refine vC fun X Y hX hY=>?_|refine vT ?_|refine vF [] ?_|(refine runS_c [0,1,2,3,4,5,6,7] (cM) rfl ?_ ?_ ?_))<;>(try simp only [go_sem,qa,qb,qc,qd,qe,qf,qg,qh,qi,qj,qk,ql,qm,qn,qo,qp,qq,qr,qs,reduceIte,reduceCtorEq,Bool.false_eq_true,if_false])))
 · rw [hB] at cM
   have hm:c.mine seq=true:=by
     simp only [Chain.lateB,Bool.and_eq_true] at hB;exact hB.1
   have hi:1≤seq∧seq≤c.state.sent.length:=by
     simp only [Chain.mine,Bool.and_eq_true,In_iff] at hm;exact hm.1
   have hpk:(c.sentAt seq).ok=true:=(sentOk_iff (r7 (seq - 1).toNat (by omega))).1
   have es2:∀ v:List Bool,Chain.sentAt { c with state:={ c.state with live:=v } } seq=c.sentAt seq:=fun _=>rfl
   have cR:=refund_ok { c with state:={ c.state with live:=c.state.live.set (seq - 1).toNat false } } seq q2 hi r5 r3 hpk
   unfold Chain.settle
   refine vO tok Try.func29 rfl rfl Try.ntmps29 Try.results29 rfl (by decide) (fun cx hnt hk0=>?_)
   repeat' (first|refine vS fun K hK=>?_|refine hK _ ?_;clear hK K|refine hY ?_;clear hX hY X Y|((first|refine vR tok (by rw [hnt];rfl) ?_|refine vC fun X Y hX hY=>?_|refine vK ?_|refine vT ?_|refine vF [] ?_|refine runS_c [0,1,2,3,4,5,6,7] (cM) rfl ?_ ?_ ?_|(refine runS_c [0,1,2,3,4,5,6,7] (cR) rfl ?_ ?_ ?_))<;>(try simp only [go_sem,qa,qb,qc,qd,qe,qf,qg,qh,qi,qj,qk,ql,qm,qn,qo,qp,qq,qr,qs,reduceIte,reduceCtorEq,if_true,es2]))|refine Fits.of ?_ ?_|(refine aL ?_ (fun hp=>?_)<;>((try simp only [rowSet_fI hp,rowSet_fI2 hp]);(try simp only [rowSet_fB hp])))|refine aE ?_ fun hp=>?_|refine aC ?_ fun hp=>?_|refine And.intro ?_ ?_|clear hK K)
   all_goals try omega
end Go.Hw
namespace Go.Proofs
open Go.Shelf
end Go.Proofs
namespace Go.Hw
open Go.Proofs Go.RowKit
end Go.Hw
namespace Go.Hw
open Go.Proofs Go.RowKit
end Go.Hw
namespace Go.Hw
open Go.Proofs
def pairB:AObj:=.box [.ptr 1 0 0 0,.ptr 2 0 0 0]
attribute [go_sem] pairB
def pairH (w:Two) (ra rb:Nat):Heap:=(0,pairB) ::(linkH w.a 1 ra++linkH w.b 2 rb)
attribute [go_sem] pairH
def zeroS:List Cell:=[ci 0,ci 0,ci 0,.t (.v (.slice none 0 0)),.t (.v (.slice none 0 0)),.t (.v (.slice none 0 0)),.t (.v (.slice none 0 0))]
def pastF (l:List State) (k:Nat) (i j:Nat):Cell:=if i < k then mkF zeroS i j else fS l i j
theorem pastF_zero (l:List State):pastF l 0=fS l:=by
 funext i j;simp [pastF]
theorem pastF_set (l:List State) (k:Nat) (s:State) (hs:l.getD k default=s):rowSet (pastF l (k+1)) k 0 [.t (s.tv 0),.t (s.tv 1),.t (s.tv 2),.t (s.tv 3),.t (s.tv 4),.t (s.tv 5),.t (s.tv 6)]=pastF l k:=by
 funext i j
 unfold rowSet
 by_cases e:i=k
 · subst e
   have h1:∀ j,pastF l i i j=.t (s.tv j):=fun j=>by
     unfold pastF;rw [if_neg (by omega),fS_ap,hs]
   have h2:∀ j,pastF l (i+1) i j=mkF zeroS i j:=fun j=>by
     unfold pastF;rw [if_pos (by omega)]
   rw [h1,h2]
   match j with
   | 0=>simp
   | 1=>simp
   | 2=>simp
   | 3=>simp
   | 4=>simp
   | 5=>simp
   | 6=>simp
   | j+7 =>
     rw [if_neg (by simp)]
     rfl
 · have e2:¬ (i=k∧0≤j∧j < 0+[Cell.t (s.tv 0),.t (s.tv 1),.t (s.tv 2),.t (s.tv 3),.t (s.tv 4),.t (s.tv 5),.t (s.tv 6)].length):=fun h=>e h.1
   rw [if_neg e2]
   unfold pastF
   by_cases h1:i < k
   · rw [if_pos (by omega),if_pos h1]
   · rw [if_neg (by omega),if_neg h1]
theorem past_isT (l:List State) (k i j:Nat) (hj:j < 7):isT (pastF l k i j)=true:=by
 unfold pastF
 split
 · match j,hj with
   | 0,_=>rfl
   | 1,_=>rfl
   | 2,_=>rfl
   | 3,_=>rfl
   | 4,_=>rfl
   | 5,_=>rfl
   | 6,_=>rfl
 · rfl
@[go_sem] theorem rle_past {H:Heap} {fz:Nat→Prop} {τ:List (Nat × Nat)} {N n k:Nat} {l:List State}:rle H fz τ N 7 n (pastF l k) (pastF l k)=True :=
 eq_true (rle_isT fun i _ j hj=>past_isT l k i j hj)
@[go_sem] theorem rle_past0 {H:Heap} {fz:Nat→Prop} {τ:List (Nat × Nat)} {N:Nat} {l:List State}:rle H fz τ N 7 l.length (mkF [.t (.v (.int .i64 0)),.t (.v (.int .i64 0)),.t (.v (.int .i64 0)),.t (.v (.slice none 0 0)),.t (.v (.slice none 0 0)),.t (.v (.slice none 0 0)),.t (.v (.slice none 0 0))]) (pastF l l.length)=True:=by
 refine eq_true ?_
 intro i hi j hj
 have:pastF l l.length i j=mkF [.t (.v (.int .i64 0)),.t (.v (.int .i64 0)),.t (.v (.int .i64 0)),.t (.v (.slice none 0 0)),.t (.v (.slice none 0 0)),.t (.v (.slice none 0 0)),.t (.v (.slice none 0 0))] i j:=by unfold pastF;rw [if_pos hi];rfl
 rw [this]
 have h2:isT (mkF [.t (.v (.int .i64 0)),.t (.v (.int .i64 0)),.t (.v (.int .i64 0)),.t (.v (.slice none 0 0)),.t (.v (.slice none 0 0)),.t (.v (.slice none 0 0)),.t (.v (.slice none 0 0))] i j)=true:=by
   have:=past_isT l l.length i j hj
   rwa [show pastF l l.length i j=mkF [.t (.v (.int .i64 0)),.t (.v (.int .i64 0)),.t (.v (.int .i64 0)),.t (.v (.slice none 0 0)),.t (.v (.slice none 0 0)),.t (.v (.slice none 0 0)),.t (.v (.slice none 0 0))] i j from by assumption] at this
 cases e:mkF [.t (.v (.int .i64 0)),.t (.v (.int .i64 0)),.t (.v (.int .i64 0)),.t (.v (.slice none 0 0)),.t (.v (.slice none 0 0)),.t (.v (.slice none 0 0)),.t (.v (.slice none 0 0))] i j with
 | t x=>simp [cle_t,tof_t,tle_refl]
 | _=>rw [e] at h2;cases h2
theorem lt2 {P:Nat→Prop}:(∀ i,i < 2→P i) ↔ (P 0∧P 1) :=
 ⟨fun h=>⟨h 0 (by omega),h 1 (by omega)⟩,fun h i hi=>by
   match i,hi with
   | 0,_=>exact h.1
   | 1,_=>exact h.2⟩
theorem lt13 {P:Nat→Prop}:(∀ i,i < 13→P i) ↔ (P 0∧P 1∧P 2∧P 3∧P 4∧P 5∧P 6∧P 7∧P 8∧P 9∧P 10∧P 11∧P 12):=by
 constructor
 · intro h
   exact ⟨h 0 (by omega),h 1 (by omega),h 2 (by omega),h 3 (by omega),h 4 (by omega),h 5 (by omega),h 6 (by omega),h 7 (by omega),h 8 (by omega),h 9 (by omega),h 10 (by omega),h 11 (by omega),h 12 (by omega)⟩
 · rintro ⟨h0,h1,h2,h3,h4,h5,h6,h7,h8,h9,h10,h11,h12⟩ i hi
   match i,hi with
   | 0,_=>exact h0
   | 1,_=>exact h1
   | 2,_=>exact h2
   | 3,_=>exact h3
   | 4,_=>exact h4
   | 5,_=>exact h5
   | 6,_=>exact h6
   | 7,_=>exact h7
   | 8,_=>exact h8
   | 9,_=>exact h9
   | 10,_=>exact h10
   | 11,_=>exact h11
   | 12,_=>exact h12
@[go_sem] theorem tlr_2_13 {H:Heap} {fz:Nat→Prop} {n:Nat} {f:Nat→Nat→Cell} {g:Nat→Nat→TV}:tlr H fz n 13 0 2 f g=((tof H fz n (f (0+0) 0) (g 0 0)∧tof H fz n (f (0+0) 1) (g 0 1)∧tof H fz n (f (0+0) 2) (g 0 2)∧tof H fz n (f (0+0) 3) (g 0 3)∧tof H fz n (f (0+0) 4) (g 0 4)∧tof H fz n (f (0+0) 5) (g 0 5)∧tof H fz n (f (0+0) 6) (g 0 6)∧tof H fz n (f (0+0) 7) (g 0 7)∧tof H fz n (f (0+0) 8) (g 0 8)∧tof H fz n (f (0+0) 9) (g 0 9)∧tof H fz n (f (0+0) 10) (g 0 10)∧tof H fz n (f (0+0) 11) (g 0 11)∧tof H fz n (f (0+0) 12) (g 0 12))∧(tof H fz n (f (0+1) 0) (g 1 0)∧tof H fz n (f (0+1) 1) (g 1 1)∧tof H fz n (f (0+1) 2) (g 1 2)∧tof H fz n (f (0+1) 3) (g 1 3)∧tof H fz n (f (0+1) 4) (g 1 4)∧tof H fz n (f (0+1) 5) (g 1 5)∧tof H fz n (f (0+1) 6) (g 1 6)∧tof H fz n (f (0+1) 7) (g 1 7)∧tof H fz n (f (0+1) 8) (g 1 8)∧tof H fz n (f (0+1) 9) (g 1 9)∧tof H fz n (f (0+1) 10) (g 1 10)∧tof H fz n (f (0+1) 11) (g 1 11)∧tof H fz n (f (0+1) 12) (g 1 12))):=by
 unfold tlr
 simp only [lt2,lt13]
theorem ichain_ok (c:Chain) (hp:(c.past.length:Int)≤90):Call Try.prog 30 [.c (.ptr 0 0 0 0)] (linkH c 0 1) 8 (.o (.g (chainA c 8))) (chainH c 8) 16:=by
 refine vO tok Try.func30 rfl rfl Try.ntmps30 Try.results30 rfl (by decide) (fun cx hnt hk0=>?_)

 repeat' (first|refine vS fun K hK=>?_|refine hK _ ?_;clear hK K|refine vB ?_|((first|refine vR tok (by rw [hnt];rfl) ?_|(refine AWp.draw (id:=1) tok mixed (.tak 0 (.tak 1 (.tak 2 (.tak 3 (.tak 4 (.tak 5 (.tak 6 (.tak 7 (.tak 8 (.tak 9 (.tak 10 (.tak 11 (.tak 12 (.tak 13 (.tak 14 (.tak 15 (.tak 17 (.tak 18 (.tak 19 (.tak 20 (.all (.cons 16 (.all (.cons 21 (.all (.cons 22 (.all (.cons 23 .done .nil)) .nil)) (.cons 22 (.all (.cons 21 (.all (.cons 23 .done .nil)) .nil)) .nil))) (.cons 22 (.all (.cons 16 (.all (.cons 21 (.all (.cons 23 .done .nil)) .nil)) .nil)) .nil))))))))))))))))))))))) [0] [0] (by kernel_rfl) (by kernel_rfl) (by rw [hnt];rfl) ?_))<;>(try simp only [go_sem,qa,qb,qc,qd,qe,qf,qg,qh,qi,qj,qk,ql,qm,qn,qo,qp,qq,qr,qs,reduceIte,reduceCtorEq]))|refine aE ?_ fun hp=>?_|refine And.intro ?_ ?_|clear hK K)
 all_goals try omega
 all_goals refine AWp.loop (fun k:Nat=>⟨[(2,.o (.c (.ptr 8 0 0 0))),(3,.o (.c (.ptr 10 0 0 0))),(4,.o (I ((c.past.length:Int) - k))),(5,.o (.c (.t (marksT (c.past.reverse.drop k)))))],(8,.box [ci 0,.t (.v (.slice none 0 0)),.t (.v (.slice none 0 0)),ci 0,ci 0,ci 0,ci 0,.t (.v (.slice none 0 0)),.t (.v (.slice none 0 0)),.t (.v (.slice none 0 0)),.t (.v (.slice none 0 0)),.t (.v (.slice none 0 0)),.t (.v (.slice none 0 0))]) ::(9,.row 7 c.past.length (pastF c.past (c.past.length - k))) ::(10,.box [ci c.id,.sl 1 1 0 c.bank.own.length,.sl 2 1 0 c.bank.notes.length,ci c.bank.locked,ci c.state.way,ci c.state.ver,ci c.state.want,.sl 3 7 0 c.state.sent.length,.sl 4 1 0 c.state.live.length,.sl 5 1 0 c.state.back.length,.sl 6 1 0 c.state.got.length,.sl 9 7 0 c.past.length,.sl 7 1 0 c.knows.length]) ::linkH c 0 1,11⟩) (fun k=>k≤c.past.length) (fun k=>c.past.length - k) 0 (Nat.zero_le _) ?_ ?_
 all_goals try (
   refine vL hk0 [] ?_;simp only [go_sem,qa,qb,qc,qd,qe,qf,qg,qh,qi,qj,qk,ql,qm,qn,qo,qp,qq,qr,qs,reduceIte,reduceCtorEq,List.drop_zero,Nat.sub_zero]
   done)
 all_goals try (
   refine vL hk0 [] ?_;simp only [go_sem,qa,qb,qc,qd,qe,qf,qg,qh,qi,qj,qk,ql,qm,qn,qo,qp,qq,qr,qs,reduceIte,reduceCtorEq,List.drop_zero,Nat.sub_zero]
   first|omega|simp)
 all_goals intro k hk
 all_goals (rcases Nat.lt_or_ge k c.past.length with hlt|hge)
 all_goals try (
   have em:=marksT_drop c.past.reverse k (by rw [List.length_reverse];exact hlt)
   have hs:c.past.getD (c.past.length - k - 1) default=c.past.reverse.getD k default:=by
     simp only [List.getD]
     rw [List.getElem?_reverse hlt]
     congr 2;omega
   have hset:=pastF_set c.past (c.past.length - k - 1) _ hs
   rw [show c.past.length - k - 1+1=c.past.length - k by omega] at hset
   have e1:((c.past.length:Int) - (k:Int) - 1).toNat=c.past.length - k - 1:=by omega
   have e2:c.past.length - (k+1)=c.past.length - k - 1:=by omega
   simp only [State.tv] at hset)
 all_goals try (
   have em:marksT (c.past.reverse.drop k)=.v (.pointer none):=by
     rw [List.drop_eq_nil_of_le (by rw [List.length_reverse];exact hge)];rfl
   have e0:c.past.length - k=0:=by omega
   have hset:=pastF_zero c.past
   have e1:True:=trivial
   have e2:True:=trivial)
 repeat' (first|refine vS fun K hK=>?_|refine hK _ ?_;clear hK K|refine hX ?_;clear hX hY X Y|refine hY ?_;clear hX hY X Y|refine vB ?_|((first|refine vR tok (by rw [hnt];rfl) ?_|refine vC fun X Y hX hY=>?_|refine vK ?_|refine vE ?_|refine vT ?_|refine vF [] ?_|(refine AWp.draw (id:=7) tok mixed (.tak 0 (.tak 1 (.tak 2 (.tak 3 (.tak 4 (.tak 5 (.tak 6 (.tak 7 (.all (.cons 8 .done .nil)))))))))) [10] [3,4,5] (by kernel_rfl) (by kernel_rfl) (by rw [hnt];rfl) ?_)|(refine vL hk0 [] ?_))<;>(try simp only [go_sem,qa,qb,qc,qd,qe,qf,qg,qh,qi,qj,qk,ql,qm,qn,qo,qp,qq,qr,qs,reduceIte,reduceCtorEq,em,e1,e2,hset]))|refine ⟨k+1,?_,?_,?_⟩|refine Fits.of ?_ ?_|(refine aL ?_ (fun hp=>?_)<;>((try simp only [rowSet_fI hp,rowSet_fI2 hp]);(try simp only [rowSet_fB hp])))|refine aE ?_ fun hp=>?_|refine aC ?_ fun hp=>?_|refine And.intro ?_ ?_|clear hK K)
 all_goals try (first|omega|(simp only [dA,dB,dC];omega))
 all_goals try (simp only [e0,pastF_zero,rle_fS];done)
def relayB (c:Chain) (s:State) (h:Int):Bool:=c.ok && (s.ok && In h 1 90)
theorem relayB_iff {c:Chain} {s:State} {h:Int}:relayB c s h=true ↔ c.ok=true∧s.ok=true∧1≤h∧h≤90:=by
 simp only [relayB,Bool.and_eq_true,In_iff]
theorem iRelayLate_yes (c:Chain) (s:State) (h seq:Int) (hc:c.ok=true) (hs:s.ok=true) (h1:1≤h∧h≤90) (sc:c.small) (ss:s.small) :
   Call Try.prog 7 [c.av,s.av,I h,I seq] [] 0 (.tup [.g (chainA (c.late s h seq) 0),BB (c.lateB s h seq)]) (chainH (c.late s h seq) 0) 8:=by
 have a1:=iChainOk_ok c sc
 have a2:=iStateOk_ok s ss
 rw [hc] at a1
 rw [hs] at a2
 have hl:((c.late s h seq).past.length:Int)≤90:=by
   obtain ⟨_,_,_,q4,_⟩:=chain_ok (late_ok (s:=s) (x:=h) (seq:=seq) hc)
   omega
 refine vO tok Try.func7 rfl rfl Try.ntmps7 Try.results7 rfl (by decide) (fun cx hnt hk0=>?_)
 repeat' (first|refine vS fun K hK=>?_|refine hK _ ?_;clear hK K|refine hY ?_;clear hX hY X Y|((first|refine vR tok (by rw [hnt];rfl) ?_|refine vC fun X Y hX hY=>?_|refine vK ?_|refine vT ?_|refine vF [] ?_|refine runS_c [] (a1) rfl ?_ ?_ ?_|refine runS_c [] (a2) rfl ?_ ?_ ?_|refine runS_c [] (linkOf_ok c hc) rfl ?_ ?_ ?_|refine runS_c [3,4,5,6,7,8,9,10] (late_ok2 c s h seq hc hs) rfl ?_ ?_ ?_|refine runS_c [3,11,12,13,14,15,16,17] (ichain_ok _ hl) rfl ?_ ?_ ?_|((first|apply gR|apply gC)<;>intro hq<;>(try simp only [nT,nF,n1,n0] at hq)<;>(have hb:=hq)<;>(try simp only [dT,dF,eT,eF] at hb)<;>first|(exfalso;omega)|((try simp only [hq]);clear hq)))<;>(try simp only [go_sem,qa,qb,qc,qd,qe,qf,qg,qh,qi,qj,qk,ql,qm,qn,qo,qp,qq,qr,qs,reduceIte,reduceCtorEq])))
 all_goals first|omega|rfl
theorem iRelayLate_no (c:Chain) (s:State) (h seq:Int) (sc:c.small) (ss:s.small) (hn:relayB c s h=false) :
   Call Try.prog 7 [c.av,s.av,I h,I seq] [] 0 (.tup [Chain.av default,BB false]) [] 0:=by
 have a1:=iChainOk_ok c sc
 have a2:=iStateOk_ok s ss
 cases e1:c.ok
 · rw [e1] at a1
   refine vO tok Try.func7 rfl rfl Try.ntmps7 Try.results7 rfl (by decide) (fun cx hnt hk0=>?_)
   repeat' (first|refine vS fun K hK=>?_|refine hK _ ?_;clear hK K|refine hX ?_;clear hX hY X Y|((first|refine vR tok (by rw [hnt];rfl) ?_|refine vC fun X Y hX hY=>?_|refine vT ?_|refine vF [] ?_|(refine runS_c [] (a1) rfl ?_ ?_ ?_))<;>(try simp only [go_sem,qa,qb,qc,qd,qe,qf,qg,qh,qi,qj,qk,ql,qm,qn,qo,qp,qq,qr,qs,reduceIte,reduceCtorEq]))|refine And.intro ?_ ?_|clear hK K)
   all_goals first|omega|rfl
 rw [e1] at a1
 cases e2:s.ok
 · rw [e2] at a2
   refine vO tok Try.func7 rfl rfl Try.ntmps7 Try.results7 rfl (by decide) (fun cx hnt hk0=>?_)
   repeat' (first|refine vS fun K hK=>?_|refine hK _ ?_;clear hK K|refine hX ?_;clear hX hY X Y|((first|refine vR tok (by rw [hnt];rfl) ?_|refine vC fun X Y hX hY=>?_|refine vT ?_|refine vF [] ?_|refine runS_c [] (a1) rfl ?_ ?_ ?_|(refine runS_c [] (a2) rfl ?_ ?_ ?_))<;>(try simp only [go_sem,qa,qb,qc,qd,qe,qf,qg,qh,qi,qj,qk,ql,qm,qn,qo,qp,qq,qr,qs,reduceIte,reduceCtorEq]))|refine And.intro ?_ ?_|clear hK K)
   all_goals first|omega|rfl
 rw [e2] at a2
 have e3:¬ (1≤h∧h≤90):=fun e3=>by rw [relayB_iff.2 ⟨e1,e2,e3⟩] at hn;cases hn
 refine vO tok Try.func7 rfl rfl Try.ntmps7 Try.results7 rfl (by decide) (fun cx hnt hk0=>?_)
 repeat' (first|refine vS fun K hK=>?_|refine hK _ ?_;clear hK K|refine hX ?_;clear hX hY X Y|((first|refine vR tok (by rw [hnt];rfl) ?_|refine vC fun X Y hX hY=>?_|refine vT ?_|refine vF [] ?_|refine runS_c [] (a1) rfl ?_ ?_ ?_|refine runS_c [] (a2) rfl ?_ ?_ ?_|((first|apply gR|apply gC)<;>intro hq<;>(try simp only [nT,nF,n1,n0] at hq)<;>(have hb:=hq)<;>(try simp only [dT,dF,eT,eF] at hb)<;>first|(exfalso;omega)|((try simp only [hq]);clear hq)))<;>(try simp only [go_sem,qa,qb,qc,qd,qe,qf,qg,qh,qi,qj,qk,ql,qm,qn,qo,qp,qq,qr,qs,reduceIte,reduceCtorEq]))|refine And.intro ?_ ?_|clear hK K)
 all_goals first|omega|rfl
theorem iRelayTell_yes (c:Chain) (s:State) (seq:Int) (hc:c.ok=true) (hs:s.ok=true) (sc:c.small) (ss:s.small) :
   Call Try.prog 9 [c.av,s.av,I seq] [] 0 (.tup [.g (chainA (c.tell s seq) 0),BB (c.tellB s seq)]) (chainH (c.tell s seq) 0) 8:=by
 have a1:=iChainOk_ok c sc
 have a2:=iStateOk_ok s ss
 rw [hc] at a1
 rw [hs] at a2
 have hl:((c.tell s seq).past.length:Int)≤90:=by
   obtain ⟨_,_,_,q4,_⟩:=chain_ok (tell_ok (s:=s) (seq:=seq) hc)
   omega
 refine vO tok Try.func9 rfl rfl Try.ntmps9 Try.results9 rfl (by decide) (fun cx hnt hk0=>?_)
 repeat' (first|refine vS fun K hK=>?_|refine hK _ ?_;clear hK K|refine hY ?_;clear hX hY X Y|((first|refine vR tok (by rw [hnt];rfl) ?_|refine vC fun X Y hX hY=>?_|refine vK ?_|refine vT ?_|refine vF [] ?_|refine runS_c [] (a1) rfl ?_ ?_ ?_|refine runS_c [] (a2) rfl ?_ ?_ ?_|refine runS_c [] (linkOf_ok c hc) rfl ?_ ?_ ?_|refine runS_c [3,4,5,6,7,8,9,10] (tell_ok2 c s 0 seq hc hs) rfl ?_ ?_ ?_|(refine runS_c [3,11,12,13,14,15,16,17] (ichain_ok _ hl) rfl ?_ ?_ ?_))<;>(try simp only [go_sem,qa,qb,qc,qd,qe,qf,qg,qh,qi,qj,qk,ql,qm,qn,qo,qp,qq,qr,qs,reduceIte,reduceCtorEq])))
 all_goals first|omega|rfl
theorem sRelayLate_yes (c:Chain) (s:State) (h seq:Int) (hc:c.ok=true) (hs:s.ok=true) (h1:1≤h∧h≤90) (sc:c.small) (ss:s.small) :
   Call Try.prog 6 [c.av,s.av,I h,I seq] [] 0 (.tup [.g (chainA (c.late s h seq) 0),BB (c.lateB s h seq)]) (chainH (c.late s h seq) 0) 8:=by
 have a1:=ChainOk_ok c sc
 have a2:=StateOk_ok s ss.1 ss.2
 rw [hc] at a1
 rw [hs] at a2
 have e3:In h 1 90=true:=In_iff.2 h1
 refine vO tok Try.func6 rfl rfl Try.ntmps6 Try.results6 rfl (by decide) (fun cx hnt hk0=>?_)

 repeat' (first|refine vS fun K hK=>?_|refine hK _ ?_;clear hK K|refine hY ?_;clear hX hY X Y|((first|refine vR tok (by rw [hnt];rfl) ?_|refine vC fun X Y hX hY=>?_|refine vK ?_|refine vT ?_|refine vF [] ?_|refine runS_c [] (a1) rfl ?_ ?_ ?_|refine runS_c [] (a2) rfl ?_ ?_ ?_|refine runS_c [] (l6In_ok _ _ _) rfl ?_ ?_ ?_|(refine AWp.draw (id:=3) tok mixed (.tak 0 (.tak 2 (.tak 3 (.tak 4 (.all (.cons 1 (.all (.cons 5 (.tak 6 (.tak 7 (.all (.cons 8 (.tak 9 .done) .nil)))) .nil)) .nil)))))) [0,1] [2,3,4,5,8] (by kernel_rfl) (by kernel_rfl) (by rw [hnt];rfl) ?_)|refine effS_c [] (l12Copy_ok c hc) rfl ?_ ?_ ?_|(refine effS_c [_,_,_,_,_,_,_,_] (l13Late_ok c s h seq hc hs) rfl ?_ ?_ ?_))<;>(try simp only [go_sem,qa,qb,qc,qd,qe,qf,qg,qh,qi,qj,qk,ql,qm,qn,qo,qp,qq,qr,qs,reduceIte,reduceCtorEq,e3])))
 all_goals first|omega|rfl
theorem sRelayLate_no (c:Chain) (s:State) (h seq:Int) (sc:c.small) (ss:s.small) (hn:relayB c s h=false) :
   Call Try.prog 6 [c.av,s.av,I h,I seq] [] 0 (.tup [Chain.av default,BB false]) [] 0:=by
 have a1:=ChainOk_ok c sc
 have a2:=StateOk_ok s ss.1 ss.2
 cases e1:c.ok
 · rw [e1] at a1
   refine vO tok Try.func6 rfl rfl Try.ntmps6 Try.results6 rfl (by decide) (fun cx hnt hk0=>?_)

   repeat' (first|refine vS fun K hK=>?_|refine hK _ ?_;clear hK K|refine hX ?_;clear hX hY X Y|((first|refine vR tok (by rw [hnt];rfl) ?_|refine vC fun X Y hX hY=>?_|refine vT ?_|refine vF [] ?_|(refine runS_c [] (a1) rfl ?_ ?_ ?_))<;>(try simp only [go_sem,qa,qb,qc,qd,qe,qf,qg,qh,qi,qj,qk,ql,qm,qn,qo,qp,qq,qr,qs,reduceIte,reduceCtorEq]))|refine And.intro ?_ ?_|clear hK K)
   all_goals first|omega|rfl
 rw [e1] at a1
 cases e2:s.ok
 · rw [e2] at a2
   refine vO tok Try.func6 rfl rfl Try.ntmps6 Try.results6 rfl (by decide) (fun cx hnt hk0=>?_)

   repeat' (first|refine vS fun K hK=>?_|refine hK _ ?_;clear hK K|refine hX ?_;clear hX hY X Y|((first|refine vR tok (by rw [hnt];rfl) ?_|refine vC fun X Y hX hY=>?_|refine vT ?_|refine vF [] ?_|refine runS_c [] (a1) rfl ?_ ?_ ?_|(refine runS_c [] (a2) rfl ?_ ?_ ?_))<;>(try simp only [go_sem,qa,qb,qc,qd,qe,qf,qg,qh,qi,qj,qk,ql,qm,qn,qo,qp,qq,qr,qs,reduceIte,reduceCtorEq]))|refine And.intro ?_ ?_|clear hK K)
   all_goals first|omega|rfl
 rw [e2] at a2
 have e3:In h 1 90=false:=by
   cases e3:In h 1 90
   · rfl
   · rw [relayB,e1,e2,e3] at hn;cases hn
 refine vO tok Try.func6 rfl rfl Try.ntmps6 Try.results6 rfl (by decide) (fun cx hnt hk0=>?_)

 repeat' (first|refine vS fun K hK=>?_|refine hK _ ?_;clear hK K|refine hX ?_;clear hX hY X Y|((first|refine vR tok (by rw [hnt];rfl) ?_|refine vC fun X Y hX hY=>?_|refine vT ?_|refine vF [] ?_|refine runS_c [] (a1) rfl ?_ ?_ ?_|refine runS_c [] (a2) rfl ?_ ?_ ?_|(refine runS_c [] (l6In_ok _ _ _) rfl ?_ ?_ ?_))<;>(try simp only [go_sem,qa,qb,qc,qd,qe,qf,qg,qh,qi,qj,qk,ql,qm,qn,qo,qp,qq,qr,qs,reduceIte,reduceCtorEq,e3]))|refine And.intro ?_ ?_|clear hK K)
 all_goals first|omega|rfl
end Go.Hw
