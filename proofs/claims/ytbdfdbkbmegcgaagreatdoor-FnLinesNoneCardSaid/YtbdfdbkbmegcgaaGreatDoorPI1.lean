/- What is proved here: parts of the walk of the law and of its plain side; no condition but those that each theorem states. -/
import Derived.Test.YtbdfdbkbmegcgaaGreatDoorPD1
import Derived.Test.YtbdfdbkbmegcgaaGreatDoorPH4
import Derived.Test.YtbdfdbkbmegcgaaGreatDoorProg
import Derived.WalkKit
import Derived.Lib.Builder
import Derived.RowKitTokens
import Derived.Laws.Externs
import Derived.Lib.UnsafeStr
import Derived.OwnWalk
import Derived.Shelf.RegionOpenPlain
import Derived.Shelf.Strings.Builder1
import Derived.Shelf.Strings.Builder2
import Derived.Shelf.Strings.OnBuilder
import Derived.Shelf.Utf8.RuneCount
import Derived.Shelf.Strconv.Atoi
import Derived.Shelf.Strconv.Itoa0
import Derived.Shelf.Strconv.Itoa1
import Derived.Shelf.LaysM
import Derived.Shelf.Strconv.Itoa2
import Derived.Shelf.Strconv.Itoa3
import Derived.Shelf.Strconv.AtoiErrFast
import Derived.Shelf.Strconv.ParseIntEmpty
import Derived.Shelf.Strconv.AtoiFail
import Derived.Shelf.Strconv.Clone
import Derived.Shelf.Strconv.SyntaxError
import Derived.Shelf.LaysC
import Derived.Shelf.Strconv.ToError
import Derived.Shelf.Strconv.Lower
import Derived.Shelf.Strconv.ParseUint10
import Derived.Shelf.Strconv.ParseUint10Empty
import Derived.Shelf.Strconv.ParseUint10Any
import Derived.Shelf.Strconv.ParseInt10
import Derived.Shelf.Strconv.AtoiLong
import Derived.Shelf.Strconv.AtoiInnerAll
import Derived.Shelf.Strconv.RangeError
import Derived.Shelf.Strconv.ToErrorRange
import Derived.Shelf.Strconv.AtoiAll
import Derived.Shelf.Strings.Search1
import Derived.Shelf.Strings.Search2
import Derived.Shelf.Strings.Search3
import Derived.Shelf.Strings.Count
import Derived.Shelf.Strings.Shaped
import Derived.Shelf.Strings.Split
import Derived.Shelf.Strings.SplitShaped
import Derived.Shelf.Unicode.Decode
import Derived.Shelf.Strings.RuneCount
import Derived.Shelf.Strings.Explode
import Derived.Shelf.Unicode.DecodeSlow
import Derived.Shelf.Unicode.DecodeAny
import Derived.Shelf.Slices.Turned
import Derived.Shelf.Slices.Reverse
import Derived.Ground.Names2Prog
import Derived.Shelf.Slices.SearchI
import Derived.Shelf.Slices.Cells
import Derived.Shelf.Slices.Empties
import Derived.LaidEql
import Derived.Stop.Asserts
set_option linter.all false
set_option maxRecDepth 100000
set_option maxHeartbeats 16000000
open Int renaming reduceToNat→qk,reduceAdd→ql,reduceSub→qm,reduceNeg→qn,reduceLT→qo,reduceLE→qp,reduceEq→qq,reduceBEq→qr,reduceBNe→qs
open Nat renaming reduceDiv→qa,reduceMod→qb,reduceAdd→qc,reduceMul→qd,reduceSub→qe,reduceLeDiff→qf,reduceBEq→qg,reduceEqDiff→qh,reduceBeqDiff→qi,reduceLT→qj
open Go.Hw renaming runG_split→gR,condG_split→gC,takG_split→gT,effG_split→gE
open Go.Hw.AWp renaming region→vR,seq→vS,cond'→vC,block→vB,skip→vK,ret→vT,exit→vE
open Go.Hw.Fin renaming auto→vF
open Go.Hw.SLe renaming auto→vL
open Go.Hw.CallX renaming of→vO
namespace Go.Hw
open Go.Proofs Go.RowKit
theorem bSize:(Tryz.prog.info? 37).map (·.size)=some 2:=by kernel_rfl
theorem lies37:liesAt Tryz.prog Tryz.prog.depth 37 (2 / Tryz.prog.cellsOf 37) 0 37 1=true:=by kernel_rfl
theorem lies39:liesAt Tryz.prog Tryz.prog.depth 39 (3 / Tryz.prog.cellsOf 39) 1 37 1=true:=by kernel_rfl
theorem copy_used (b o:Nat) (w:World) (h0:w.cell? ⟨b,o,none⟩=some (.pointer (some ⟨b,o,none⟩))) :
   Calls Tryz.prog 60 #[.pointer (some ⟨b,o,none⟩)] w fun e w'=>e=.returned (.tuple #[])∧w'=w:=by
 obtain ⟨j,hj,_⟩:=Option.map_eq_some_iff.1 bSize
 go_enter Tryz.func60,Tryz.ntmps60
 go_wp2
 rw [Lib.run_neq_ptr_same w _ Tryz.underlying35 hj]
 go_wp2
 go_end0
 exact ⟨rfl,rfl⟩
theorem copy_fresh (b o n:Nat) (T:TypeId) (w:World) (h0:w.cell? ⟨b,o,none⟩=some (.pointer none)) (hsh:w.shape? b=some (T,n)) (hfz:w.frozen? ⟨b,o,none⟩=false) (hon:o < n)
   (hlies:liesAt Tryz.prog Tryz.prog.depth T (n / Tryz.prog.cellsOf T) o 37 1=true) :
   Calls Tryz.prog 60 #[.pointer (some ⟨b,o,none⟩)] w fun e w'=>e=.returned (.tuple #[])∧w'=w.setCell ⟨b,o,none⟩ (.pointer (some ⟨b,o,none⟩)):=by
 obtain ⟨j,hj,hjs⟩:=Option.map_eq_some_iff.1 bSize
 have hx:=@run_callFunc_extern Tryz.prog 87 _ Extern.AbiNoEscape.same Tryz.func87 (by kernel_rfl) (by kernel_rfl) (by kernel_rfl) (by kernel_rfl)
 go_enter Tryz.func60,Tryz.ntmps60
 go_wp2
 rw [Lib.run_to_unsafe w ⟨b,o,none⟩ Tryz.underlying35 Tryz.underlying133 hj (by rw [hjs];decide) hsh hon]
 simp only [Result.andThen]
 rw [Oper.upon_value]
 go_wp2
 rw [Lib.run_noEscape]
 simp only [Result.andThen]
 rw [Oper.upon_value]
 go_wp2
 rw [Lib.run_from_unsafe w ⟨b,o,none⟩ Tryz.underlying133 Tryz.underlying35 hj hsh hlies]
 simp only [Result.andThen]
 rw [Oper.upon_value]
 go_wp2
 go_end0
 exact ⟨rfl,rfl⟩
def bldC (o h:Nat) (u:Bool):Cell:=bif u then .ptr h 0 0 o else .t (.v (.pointer none))
@[go_sem ↓] theorem ren_bldC {g:Nat→Nat} {o h:Nat} {u:Bool}:(bldC o h u).ren g=bldC o (g h) u:=by cases u<;>rfl
@[go_sem ↓] theorem flat_bldC {o h:Nat} {u:Bool}:(bldC o h u).flat=True:=by cases u<;>rfl
@[go_sem ↓] theorem cle_bldC {H:Heap} {fz:Nat→Prop} {τ:List (Nat × Nat)} {N o h h':Nat} {u:Bool}:cle H fz τ N (bldC o h u) (bldC o h' u)=(u=true→h=rn τ h'∧h' < N):=by
 cases u
 · simp [bldC,cle_t,tof_t,tle_refl]
 · simp [bldC,cle_ptr]
theorem copy_call {T:TypeId} {o n k:Nat} {l:List Cell} {u:Bool} (hn:l.length=n) (hon:o < n) (hlo:l[o]? = some (bldC o 0 u)) (hlies:liesAt Tryz.prog Tryz.prog.depth T (n / Tryz.prog.cellsOf T) o 37 1=true) :
   Call Tryz.prog 60 [.c (.ptr 0 0 0 o)] [(0,.tbx T l)] k (.tup []) [(0,.tbx T (l.set o (.ptr 0 0 0 o)))] k:=by
 refine ⟨⟨_,Tryz.func60,by kernel_rfl,by kernel_rfl⟩,Nat.le_refl _,fun w A ρ vs hvs hH hA hρ=>?_⟩
 obtain ⟨vs⟩:=vs
 match vs,hvs with
 | [v],⟨⟨b,m,hk,hv⟩,_⟩ =>
 have hv:v=.pointer (some ⟨b,o,none⟩):=by simpa using hv
 subst hv
 obtain ⟨b',m',hk',⟨cs,hc,hm,hall⟩,hnA,hlt⟩:=hH.objs (0,.tbx T l) (by simp) trivial
 have hk':ρ 0=some (b',m'):=hk'
 rw [hk] at hk';injection hk' with hk';injection hk' with e1 e2;subst e1;subst e2
 have hcs:l.length=cs.size:=by have:=hall.length;simpa using this
 obtain ⟨z,hz1,hz2⟩:=All2.get hall hlo
 have hz1:cs[o]? = some z:=by simpa using hz1
 have hcell:w.cell? ⟨b,o,none⟩=some z:=by rw [cell_of_cells hc];exact hz1
 have hfr:w.frozen? ⟨b,o,none⟩=false:=by simp [World.frozen?,hc]
 have hsh:w.shape? b=some (T,n):=by simp [World.shape?,hc,← hcs,hn]
 have hfin:∀ w':World,w'.os=w.os→w'.tape=w.tape→w'.output=w.output→w'.heap.size=w.heap.size→(∀ x,x ≠ b→w'.heap[x]? = w.heap[x]?)→w'.heap[b]? = some (.cells (cs.setIfInBounds o (.pointer (some ⟨b,o,none⟩))) T (0,0)) →
     ∃ x v A' ρ',True∧Ending.returned (.tuple #[])=.returned v∧((fun _:Unit=>AV.tup []) x).At w' A' ρ' v∧HeapAt w' A' ρ' [(0,.tbx T (l.set o (.ptr 0 0 0 o)))]∧w'.os=w.os∧w'.tape=w.tape∧w'.output=w.output∧w.heap.size≤w'.heap.size ∧
     (∀ b,b < w.heap.size→¬ blkOf ρ [(0,.tbx T l)] b→w'.heap[b]? = w.heap[b]?) ∧
     (∀ b,A' b→b < w'.heap.size∧(A b ∨ blkOf ρ [(0,.tbx T l)] b ∨ w.heap.size≤b)) ∧
     (∀ y ∈ [(0,AObj.tbx T (l.set o (.ptr 0 0 0 o)))],y.2.real→∀ b m,ρ' y.1=some (b,m)→blkOf ρ [(0,.tbx T l)] b ∨ w.heap.size≤b) ∧
     (∀ h,h < k→ρ' h=ρ h)∧(∀ h,k≤h→ρ' h=none):=by
   intro w' h1 h2 h3 h4 h5 h6
   have hb:blkOf ρ [(0,.tbx T l)] b:=⟨_,List.mem_cons_self,trivial,m,hk⟩
   refine ⟨(),_,A,ρ,trivial,rfl,⟨#[],rfl,trivial⟩,⟨fun x hx _=>?_,List.pairwise_singleton _ _⟩,h1,h2,h3,by omega,fun b' _ hn'=>h5 b' (fun e=>hn' (e ▸ hb)),fun b' hb'=>⟨by rw [h4];exact hA b' hb',.inl hb'⟩,?_,fun _ _=>rfl,hρ⟩
   · have hx:x=(0,.tbx T (l.set o (.ptr 0 0 0 o))):=by simpa using hx
     subst hx
     refine ⟨b,m,hk,⟨_,h6,by simpa using hm,?_⟩,hnA,by omega⟩
     have hA':∀ b',A b'→w'.heap[b']? = w.heap[b']?:=fun b' hb'=>h5 b' (fun e=>hnA (e ▸ hb'))
     have:=All2.set (R:=Cell.At w' A ρ) (a:=.ptr 0 0 0 o) (b:=.pointer (some ⟨b,o,none⟩)) ⟨b,m,hk,by simp⟩ o (All2.mono (fun _ _=>Cell.At.mono (fun _ h=>h) hA' (fun _ _ h=>h)) hall)
     simpa using this
   · intro y hy _ b' m' hb'
     have hy:y=(0,.tbx T (l.set o (.ptr 0 0 0 o))):=by simpa using hy
     subst hy
     rw [show ρ 0=some (b,m) from hk] at hb';injection hb' with hb';injection hb' with e1 _;subst e1;exact .inl hb
 cases u with
 | true =>
   obtain ⟨b2,m2,hk2,rfl⟩:=hz2
   rw [hk] at hk2;injection hk2 with hk2;injection hk2 with e1 e2;subst e1;subst e2
   rw [Nat.zero_mul,Nat.zero_add] at hcell hz1
   refine (copy_used b o w hcell).mono ?_
   rintro e w' ⟨rfl,rfl⟩
   refine hfin w' rfl rfl rfl rfl (fun _ _=>rfl) ?_
   have e9:cs.setIfInBounds o (.pointer (some ⟨b,o,none⟩))=cs:=by
     apply Array.ext_getElem?
     intro i
     rw [Array.getElem?_setIfInBounds]
     split
     · rename_i h;subst h;rw [hz1];simp;omega
     · rfl
   rw [e9];exact hc
 | false =>
   have hz2:z=.pointer none:=hz2.1
   subst hz2
   refine (copy_fresh b o n T w hcell hsh hfr hon hlies).mono ?_
   rintro e w' ⟨rfl,rfl⟩
   refine hfin _ rfl rfl rfl (by simp [World.setCell]) (fun x hx=>?_) ?_
   · simp [World.setCell,Array.getElem?_modify,Ne.symm hx]
   · simp [World.setCell,Array.getElem?_modify,hc]
end Go.Hw
namespace Go.Hw
open Go.Proofs
def mEs:Nat→List Int→List MapEntry
 | _,[]=>[]
 | i,v ::r=>{ key:=.int .i64 ((i:Int)+1),val:=.int .i64 v,born:=i } ::mEs (i+1) r
def mE (l:List Int):Array MapEntry:=⟨mEs 0 l⟩
abbrev mapO (l:List Int):AObj:=.raw (.map (mE l) l.length)
@[go_sem] theorem mE_nil:AObj.raw (.map #[] 0)=mapO []:=rfl
@[go_sem] theorem mE_list (l:List Int):(mE l).toList=mEs 0 l:=rfl
@[go_sem] theorem mE_keys (i:Nat) (l:List Int):intKeys (mEs i l)=true:=by
 induction l generalizing i with
 | nil=>rfl
 | cons v r ih=>simpa [mEs,intKeys,isI64] using ih (i+1)
theorem fdI_mEs (k:Int) (l:List Int) (i j:Nat):fdI k (mEs i l) j=if (i:Int)+1≤k∧k≤i+l.length then some (j+(k - i - 1).toNat,.int .i64 (l.getD (k - i - 1).toNat 0)) else none:=by
 induction l generalizing i j with
 | nil=>simp only [mEs,fdI,List.length_nil];rw [if_neg (by omega)]
 | cons v r ih =>
   simp only [mEs,fdI,List.length_cons]
   by_cases h:k=(i:Int)+1
   · subst h
     rw [if_pos (by omega)]
     have:((i:Int)+1 - i - 1).toNat=0:=by omega
     simp [this]
   · simp only [h,decide_false,cond_false]
     rw [ih]
     by_cases h2:(i:Int)+1≤k∧k≤i+(r.length+1:Nat)
     · rw [if_pos (by omega),if_pos h2]
       have e:(k - i - 1).toNat=(k - (i+1:Nat) - 1).toNat+1:=by omega
       rw [e,List.getD_cons_succ]
       have e2:j+1+(k - (i+1:Nat) - 1).toNat=j+((k - (i+1:Nat) - 1).toNat+1):=by omega
       rw [e2]
     · rw [if_neg (by omega),if_neg h2]
theorem some_mE {l:List Int} {k:Int} (h1:1≤k) (h2:k≤l.length):(fdI k (mEs 0 l) 0).isSome=true:=by
 rw [fdI_mEs,if_pos (by omega)];rfl
theorem lk_mE {l:List Int} {k:Int} (h1:1≤k) (h2:k≤l.length):lkI k (mEs 0 l)=l.getD (k - 1).toNat 0:=by
 unfold lkI
 rw [fdI_mEs,if_pos (by omega)]
 have:(k - (0:Nat) - 1).toNat=(k - 1).toNat:=by omega
 rw [this]
theorem mEs_set (l:List Int) (n i:Nat) (v:Int) (h:n < l.length):(mEs i l).modify n (fun e=>{ e with key:=.int .i64 ((i+n:Nat)+1),val:=.int .i64 v })=mEs i (l.set n v):=by
 induction l generalizing n i with
 | nil=>simp at h
 | cons w r ih =>
   cases n with
   | zero=>simp [mEs]
   | succ n =>
     have:=ih n (i+1) (by simpa using h)
     simp only [mEs,List.modify_succ_cons,List.set_cons_succ]
     rw [← this]
     have e:i+(n+1)=i+1+n:=by omega
     rw [e]
theorem upd_mE {l:List Int} {k v:Int} (h1:1≤k) (h2:k≤l.length):updM (mE l) l.length k v=.map (mE (l.set (k - 1).toNat v)) l.length:=by
 unfold updM
 rw [mE_list,fdI_mEs,if_pos (by omega)]
 have e:0+(k - (0:Nat) - 1).toNat=(k - 1).toNat:=by omega
 rw [e]
 have:=mEs_set l (k - 1).toNat 0 v (by omega)
 show Obj.map ((mE l).modify _ _) _=_
 congr 1
 apply Array.ext'
 rw [Array.toList_modify,mE_list,mE_list,← this]
 congr 1
 funext e
 have:((0+(k - 1).toNat:Nat):Int)+1=k:=by omega
 rw [this]
theorem upd_mE_new {l:List Int} {k v:Int} (h:k=l.length+1):updM (mE l) l.length k v=.map (mE (l++[v])) (l.length+1):=by
 unfold updM
 rw [mE_list,fdI_mEs,if_neg (by omega)]
 show Obj.map ((mE l).push _) _=_
 congr 1
 apply Array.ext'
 rw [Array.toList_push,mE_list,mE_list,h]
 have:∀ (l:List Int) (i:Nat),mEs i (l++[v])=mEs i l++[{ key:=.int .i64 ((i+l.length:Nat)+1),val:=.int .i64 v,born:=i+l.length }]:=by
   intro l
   induction l with
   | nil=>intro i;simp [mEs]
   | cons w r ih =>
     intro i
     simp only [List.cons_append,mEs,ih,List.length_cons]
     have e:i+1+r.length=i+(r.length+1):=by omega
     rw [e]
 rw [this];simp
@[go_sem] theorem upd_m0 (a:Int):updM (mE []) 0 1 a=.map (mE [a]) 1:=upd_mE_new (l:=[]) rfl
@[go_sem] theorem upd_m1 (a b:Int):updM (mE [a]) 1 2 b=.map (mE [a,b]) 2:=upd_mE_new (l:=[a]) rfl
@[go_sem] theorem upd_m2 (a b c:Int):updM (mE [a,b]) 2 3 c=.map (mE [a,b,c]) 3:=upd_mE_new (l:=[a,b]) rfl
@[go_sem] theorem lk_m1 (a b c:Int):lkI 1 (mEs 0 [a,b,c])=a:=lk_mE (l:=[a,b,c]) (by omega) (by simp)
@[go_sem] theorem lk_m2 (a b c:Int):lkI 2 (mEs 0 [a,b,c])=b:=lk_mE (l:=[a,b,c]) (by omega) (by simp)
@[go_sem] theorem lk_m3 (a b c:Int):lkI 3 (mEs 0 [a,b,c])=c:=lk_mE (l:=[a,b,c]) (by omega) (by simp)
@[go_sem] theorem sm_m1 (a b c:Int):(fdI 1 (mEs 0 [a,b,c]) 0).isSome=true:=some_mE (l:=[a,b,c]) (by omega) (by simp)
@[go_sem] theorem sm_m2 (a b c:Int):(fdI 2 (mEs 0 [a,b,c]) 0).isSome=true:=some_mE (l:=[a,b,c]) (by omega) (by simp)
@[go_sem] theorem sm_m3 (a b c:Int):(fdI 3 (mEs 0 [a,b,c]) 0).isSome=true:=some_mE (l:=[a,b,c]) (by omega) (by simp)
@[go_sem] theorem row3_0 (x y z v:Int):rowSet (fI [x,y,z]) 0 0 [.t (.v (.int .i64 v))]=fI [v,y,z]:=rowSet_fI (by simp)
@[go_sem] theorem row3_1 (x y z v:Int):rowSet (fI [x,y,z]) 1 0 [.t (.v (.int .i64 v))]=fI [x,v,z]:=rowSet_fI (by simp)
@[go_sem] theorem row3_2 (x y z v:Int):rowSet (fI [x,y,z]) 2 0 [.t (.v (.int .i64 v))]=fI [x,y,v]:=rowSet_fI (by simp)
@[go_sem] theorem rep3 (v:Int):fI (List.replicate 3 v)=fI [v,v,v]:=rfl
theorem userOk_ok (n:Int):Call Tryz.prog 94 [I n] [] 0 (.o (BB (In n 1 3))) [] 0:=by
 refine vO tok Tryz.func94 rfl rfl Tryz.ntmps94 Tryz.results94 rfl (by decide) (fun cx hnt hk0=>?_)
 repeat' (first|refine vS fun K hK=>?_|refine hK _ ?_;clear hK K|((first|refine vR tok (by rw [hnt];rfl) ?_|refine vT ?_|refine vF [] ?_|(apply gR<;>intro hq<;>(try simp only [nT,nF,n1,n0] at hq)<;>(have hb:=hq)<;>(try simp only [dT,dF,eT,eF] at hb)<;>first|(exfalso;omega)|((try simp only [hq]);clear hq)))<;>(try simp only [go_sem,qa,qb,qc,qd,qe,qf,qg,qh,qi,qj,qk,ql,qm,qn,qo,qp,qq,qr,qs,reduceIte,reduceCtorEq])))
 all_goals simp [In, *]
theorem ownCoins_ok (n:Int):Call Tryz.prog 129 [.g [.mp 0,.mp 1,ci n]] [] 2 (.o (.c (.mp 0))) [] 2:=by
 refine vO tok Tryz.func129 rfl rfl Tryz.ntmps129 Tryz.results129 rfl (by decide) (fun cx hnt hk0=>?_)
 repeat' (first|refine vS fun K hK=>?_|refine hK _ ?_;clear hK K|((first|refine vR tok (by rw [hnt];rfl) ?_|refine vT ?_|(refine vF [] ?_))<;>(try simp only [go_sem,qa,qb,qc,qd,qe,qf,qg,qh,qi,qj,qk,ql,qm,qn,qo,qp,qq,qr,qs,reduceIte,reduceCtorEq])))
theorem noteCoins_ok (n:Int):Call Tryz.prog 130 [.g [.mp 0,.mp 1,ci n]] [] 2 (.o (.c (.mp 1))) [] 2:=by
 refine vO tok Tryz.func130 rfl rfl Tryz.ntmps130 Tryz.results130 rfl (by decide) (fun cx hnt hk0=>?_)
 repeat' (first|refine vS fun K hK=>?_|refine hK _ ?_;clear hK K|((first|refine vR tok (by rw [hnt];rfl) ?_|refine vT ?_|(refine vF [] ?_))<;>(try simp only [go_sem,qa,qb,qc,qd,qe,qf,qg,qh,qi,qj,qk,ql,qm,qn,qo,qp,qq,qr,qs,reduceIte,reduceCtorEq])))
theorem coinsOf_own (kind:Int) (h:kind=1):Call Tryz.prog 93 [I kind] [] 0 (.tup [.c (.t (.v (.func (.func 129) #[] #[]))),BB true]) [] 0:=by
 refine vO tok Tryz.func93 rfl rfl Tryz.ntmps93 Tryz.results93 rfl (by decide) (fun cx hnt hk0=>?_)
 repeat' (first|refine vS fun K hK=>?_|refine hK _ ?_;clear hK K|refine hX ?_;clear hX hY X Y|refine vB ?_|((first|refine vR tok (by rw [hnt];rfl) ?_|refine vC fun X Y hX hY=>?_|refine vT ?_|refine vF [] ?_|(apply gC<;>intro hq<;>(try simp only [nT,nF,n1,n0] at hq)<;>(have hb:=hq)<;>(try simp only [dT,dF,eT,eF] at hb)<;>first|(exfalso;omega)|((try simp only [hq]);clear hq)))<;>(try simp only [go_sem,qa,qb,qc,qd,qe,qf,qg,qh,qi,qj,qk,ql,qm,qn,qo,qp,qq,qr,qs,reduceIte,reduceCtorEq])))
theorem coinsOf_note (kind:Int) (h:kind=2):Call Tryz.prog 93 [I kind] [] 0 (.tup [.c (.t (.v (.func (.func 130) #[] #[]))),BB true]) [] 0:=by
 refine vO tok Tryz.func93 rfl rfl Tryz.ntmps93 Tryz.results93 rfl (by decide) (fun cx hnt hk0=>?_)
 repeat' (first|refine vS fun K hK=>?_|refine hK _ ?_;clear hK K|refine hX ?_;clear hX hY X Y|refine hY ?_;clear hX hY X Y|refine vB ?_|((first|refine vR tok (by rw [hnt];rfl) ?_|refine vC fun X Y hX hY=>?_|refine vT ?_|refine vF [] ?_|(apply gC<;>intro hq<;>(try simp only [nT,nF,n1,n0] at hq)<;>(have hb:=hq)<;>(try simp only [dT,dF,eT,eF] at hb)<;>first|(exfalso;omega)|((try simp only [hq]);clear hq)))<;>(try simp only [go_sem,qa,qb,qc,qd,qe,qf,qg,qh,qi,qj,qk,ql,qm,qn,qo,qp,qq,qr,qs,reduceIte,reduceCtorEq])))
theorem coinsOf_none (kind:Int) (h:In kind 1 2=false):Call Tryz.prog 93 [I kind] [] 0 (.tup [.c (.t (.v .nilFunc)),BB false]) [] 0:=by
 have h':¬ (1≤kind∧kind≤2):=by rw [← In_iff,h];simp
 refine vO tok Tryz.func93 rfl rfl Tryz.ntmps93 Tryz.results93 rfl (by decide) (fun cx hnt hk0=>?_)
 repeat' (first|refine vS fun K hK=>?_|refine hK _ ?_;clear hK K|refine hY ?_;clear hX hY X Y|refine vB ?_|((first|refine vR tok (by rw [hnt];rfl) ?_|refine vC fun X Y hX hY=>?_|refine vK ?_|refine vT ?_|refine vF [] ?_|(apply gC<;>intro hq<;>(try simp only [nT,nF,n1,n0] at hq)<;>(have hb:=hq)<;>(try simp only [dT,dF,eT,eF] at hb)<;>first|(exfalso;omega)|((try simp only [hq]);clear hq)))<;>(try simp only [go_sem,qa,qb,qc,qd,qe,qf,qg,qh,qi,qj,qk,ql,qm,qn,qo,qp,qq,qr,qs,reduceIte,reduceCtorEq])))
theorem amountMap_ok (a b c:Int):Call Tryz.prog 132 [.c (.t (intsT [a,b,c]))] [] 0 (.o (.c (.mp 0))) [(0,mapO [a,b,c])] 1:=by
 refine vO tok Tryz.func132 rfl rfl Tryz.ntmps132 Tryz.results132 rfl (by decide) (fun cx hnt hk0=>?_)
 repeat' (first|refine vS fun K hK=>?_|refine hK _ ?_;clear hK K|refine vB ?_|((refine vR tok (by rw [hnt];rfl) ?_)<;>(try simp only [go_sem,qa,qb,qc,qd,qe,qf,qg,qh,qi,qj,qk,ql,qm,qn,qo,qp,qq,qr,qs,reduceIte,reduceCtorEq])))
 refine AWp.loopN 4 fun L hL=>?_
 repeat' (first|refine vS fun K hK=>?_|refine hK _ ?_;clear hK K|refine hX ?_;clear hX hY X Y|refine hY ?_;clear hX hY X Y|refine vB ?_|refine hL _ _ ?_|((first|refine vR tok (by rw [hnt];rfl) ?_|refine vC fun X Y hX hY=>?_|refine vK ?_|refine vE ?_|refine vT ?_|(refine vF [] ?_))<;>(try simp only [go_sem,qa,qb,qc,qd,qe,qf,qg,qh,qi,qj,qk,ql,qm,qn,qo,qp,qq,qr,qs,reduceIte,reduceCtorEq]))|refine Fits.of ?_ ?_|refine aL ?_ fun hp=>?_|refine And.intro ?_ ?_|clear hK K|clear hL L)
 all_goals try omega
theorem amountList_ok (a b c:Int):Call Tryz.prog 133 [.c (.mp 0)] [(0,mapO [a,b,c])] 1 (.o (.c (.sl 1 1 0 3))) [(0,mapO [a,b,c]),(1,rI [a,b,c])] 2:=by
 refine vO tok Tryz.func133 rfl rfl Tryz.ntmps133 Tryz.results133 rfl (by decide) (fun cx hnt hk0=>?_)
 repeat' (first|refine vS fun K hK=>?_|refine hK _ ?_;clear hK K|refine vB ?_|((refine vR tok (by rw [hnt];rfl) ?_)<;>(try simp only [go_sem,qa,qb,qc,qd,qe,qf,qg,qh,qi,qj,qk,ql,qm,qn,qo,qp,qq,qr,qs,reduceIte,reduceCtorEq])))
 refine AWp.loopN 4 fun L hL=>?_
 repeat' (first|refine vS fun K hK=>?_|refine hK _ ?_;clear hK K|refine hX ?_;clear hX hY X Y|refine hY ?_;clear hX hY X Y|refine vB ?_|refine hL _ _ ?_|((first|refine vR tok (by rw [hnt];rfl) ?_|refine vC fun X Y hX hY=>?_|refine vK ?_|refine vE ?_|refine vT ?_|(refine vF [] ?_))<;>(try simp only [go_sem,qa,qb,qc,qd,qe,qf,qg,qh,qi,qj,qk,ql,qm,qn,qo,qp,qq,qr,qs,reduceIte,reduceCtorEq]))|refine Fits.of ?_ ?_|refine aL ?_ fun hp=>?_|refine And.intro ?_ ?_|clear hK K|clear hL L)
 all_goals try omega
def pl_len30:Plan:=(.tak 0 (.tak 1 (.tak 3 (.tak 4 (.tak 6 (.tak 7 (.all (.cons 2 (.all (.cons 5 (.all (.cons 8 (.all (.cons 9 .done .nil)) .nil)) .nil)) .nil))))))))
attribute [go_sem] pl_len30
theorem len3 {l:List Int} (h:l.length=3):∃ a b c,l=[a,b,c]:=by
 match l,h with
 | [a,b,c],_=>exact ⟨a,b,c,rfl⟩
theorem parts3 (a b c:Int):parts [a,b,c]=(In a 0 30 && (In b 0 30 && In c 0 30)):=by
 simp [parts,rall,List.range,List.range.loop]
theorem isum3' (a b c:Int):isum [a,b,c]=a+b+c:=by simp [isum]
theorem amountMap_l (l:List Int) (h:l.length=3):Call Tryz.prog 132 [.c (.t (intsT l))] [] 0 (.o (.c (.mp 0))) [(0,mapO l)] 1:=by
 obtain ⟨a,b,c,rfl⟩:=len3 h
 exact amountMap_ok a b c
theorem amountList_l (l:List Int) (h:l.length=3):Call Tryz.prog 133 [.c (.mp 0)] [(0,mapO l)] 1 (.o (.c (.sl 1 1 0 l.length))) [(0,mapO l),(1,rI l)] 2:=by
 obtain ⟨a,b,c,rfl⟩:=len3 h
 exact amountList_ok a b c
theorem amountTotal_ok (l:List Int) (hn:(l.length:Int) < 1099511627776):Call Tryz.prog 131 [.c (.t (intsT l))] [] 0 (.tup [I (if parts l then isum l else 0),BB (parts l)]) [] 0:=by
 by_cases h3:l.length=3
 · obtain ⟨a,b,c,rfl⟩:=len3 h3
   rw [parts3,isum3']
   by_cases h1:In a 0 30=true
   · by_cases h2:In b 0 30=true
     · by_cases h3:In c 0 30=true
       · rw [In_iff] at h1 h2 h3
         have e:(In a 0 30 && (In b 0 30 && In c 0 30))=true:=by simp [In];omega
         rw [e]
         refine vO tok Tryz.func131 rfl rfl Tryz.ntmps131 Tryz.results131 rfl (by decide) (fun cx hnt hk0=>?_)
         repeat' (first|refine vS fun K hK=>?_|refine hK _ ?_;clear hK K|refine hY ?_;clear hX hY X Y|refine vB ?_|((first|refine vR tok (by rw [hnt];rfl) ?_|refine vC fun X Y hX hY=>?_|(refine vK ?_))<;>(try simp only [go_sem,qa,qb,qc,qd,qe,qf,qg,qh,qi,qj,qk,ql,qm,qn,qo,qp,qq,qr,qs,reduceIte,reduceCtorEq])))
         refine AWp.loopN 4 fun L hL=>?_
         repeat' (first|refine vS fun K hK=>?_|refine hK _ ?_;clear hK K|refine hX ?_;clear hX hY X Y|refine hY ?_;clear hX hY X Y|refine vB ?_|refine hL _ _ ?_|((first|refine vR tok (by rw [hnt];rfl) ?_|refine vC fun X Y hX hY=>?_|refine vK ?_|refine vE ?_|refine vT ?_|refine vF [] ?_|((first|apply gR|apply gC)<;>intro hq<;>(try simp only [nT,nF,n1,n0] at hq)<;>(have hb:=hq)<;>(try simp only [dT,dF,eT,eF] at hb)<;>first|(exfalso;omega)|((try simp only [hq]);clear hq)))<;>(try simp only [go_sem,qa,qb,qc,qd,qe,qf,qg,qh,qi,qj,qk,ql,qm,qn,qo,qp,qq,qr,qs,reduceIte,reduceCtorEq]))|refine Fits.of ?_ ?_|refine aL ?_ fun hp=>?_|refine And.intro ?_ ?_|clear hK K|clear hL L)
         all_goals try omega
         all_goals try (simp;omega)
       · have e:(In a 0 30 && (In b 0 30 && In c 0 30))=false:=by simp [h3]
         rw [e]
         rw [In_iff] at h1 h2 h3
         refine vO tok Tryz.func131 rfl rfl Tryz.ntmps131 Tryz.results131 rfl (by decide) (fun cx hnt hk0=>?_)
         repeat' (first|refine vS fun K hK=>?_|refine hK _ ?_;clear hK K|refine hY ?_;clear hX hY X Y|refine vB ?_|((first|refine vR tok (by rw [hnt];rfl) ?_|refine vC fun X Y hX hY=>?_|(refine vK ?_))<;>(try simp only [go_sem,qa,qb,qc,qd,qe,qf,qg,qh,qi,qj,qk,ql,qm,qn,qo,qp,qq,qr,qs,reduceIte,reduceCtorEq])))
         refine AWp.loopN 4 fun L hL=>?_
         repeat' (first|refine vS fun K hK=>?_|refine hK _ ?_;clear hK K|refine hX ?_;clear hX hY X Y|refine hY ?_;clear hX hY X Y|refine vB ?_|refine hL _ _ ?_|((first|refine vR tok (by rw [hnt];rfl) ?_|refine vC fun X Y hX hY=>?_|refine vK ?_|refine vT ?_|refine vF [] ?_|((first|apply gR|apply gC)<;>intro hq<;>(try simp only [nT,nF,n1,n0] at hq)<;>(have hb:=hq)<;>(try simp only [dT,dF,eT,eF] at hb)<;>first|(exfalso;omega)|((try simp only [hq]);clear hq)))<;>(try simp only [go_sem,qa,qb,qc,qd,qe,qf,qg,qh,qi,qj,qk,ql,qm,qn,qo,qp,qq,qr,qs,reduceIte,reduceCtorEq]))|refine Fits.of ?_ ?_|refine aL ?_ fun hp=>?_|refine And.intro ?_ ?_|clear hK K|clear hL L)
         all_goals try omega
         all_goals try (simp;omega)
     · have e:(In a 0 30 && (In b 0 30 && In c 0 30))=false:=by simp [h2]
       rw [e]
       rw [In_iff] at h1 h2
       refine vO tok Tryz.func131 rfl rfl Tryz.ntmps131 Tryz.results131 rfl (by decide) (fun cx hnt hk0=>?_)
       repeat' (first|refine vS fun K hK=>?_|refine hK _ ?_;clear hK K|refine hY ?_;clear hX hY X Y|refine vB ?_|((first|refine vR tok (by rw [hnt];rfl) ?_|refine vC fun X Y hX hY=>?_|(refine vK ?_))<;>(try simp only [go_sem,qa,qb,qc,qd,qe,qf,qg,qh,qi,qj,qk,ql,qm,qn,qo,qp,qq,qr,qs,reduceIte,reduceCtorEq])))
       refine AWp.loopN 4 fun L hL=>?_
       repeat' (first|refine vS fun K hK=>?_|refine hK _ ?_;clear hK K|refine hX ?_;clear hX hY X Y|refine hY ?_;clear hX hY X Y|refine vB ?_|refine hL _ _ ?_|((first|refine vR tok (by rw [hnt];rfl) ?_|refine vC fun X Y hX hY=>?_|refine vK ?_|refine vT ?_|refine vF [] ?_|((first|apply gR|apply gC)<;>intro hq<;>(try simp only [nT,nF,n1,n0] at hq)<;>(have hb:=hq)<;>(try simp only [dT,dF,eT,eF] at hb)<;>first|(exfalso;omega)|((try simp only [hq]);clear hq)))<;>(try simp only [go_sem,qa,qb,qc,qd,qe,qf,qg,qh,qi,qj,qk,ql,qm,qn,qo,qp,qq,qr,qs,reduceIte,reduceCtorEq]))|refine Fits.of ?_ ?_|refine aL ?_ fun hp=>?_|refine And.intro ?_ ?_|clear hK K|clear hL L)
       all_goals try omega
       all_goals try (simp;omega)
   · have e:(In a 0 30 && (In b 0 30 && In c 0 30))=false:=by simp [h1]
     rw [e]
     rw [In_iff] at h1
     refine vO tok Tryz.func131 rfl rfl Tryz.ntmps131 Tryz.results131 rfl (by decide) (fun cx hnt hk0=>?_)
     repeat' (first|refine vS fun K hK=>?_|refine hK _ ?_;clear hK K|refine hY ?_;clear hX hY X Y|refine vB ?_|((first|refine vR tok (by rw [hnt];rfl) ?_|refine vC fun X Y hX hY=>?_|(refine vK ?_))<;>(try simp only [go_sem,qa,qb,qc,qd,qe,qf,qg,qh,qi,qj,qk,ql,qm,qn,qo,qp,qq,qr,qs,reduceIte,reduceCtorEq])))
     refine AWp.loopN 4 fun L hL=>?_
     repeat' (first|refine vS fun K hK=>?_|refine hK _ ?_;clear hK K|refine hX ?_;clear hX hY X Y|refine vB ?_|refine hL _ _ ?_|((first|refine vR tok (by rw [hnt];rfl) ?_|refine vC fun X Y hX hY=>?_|refine vK ?_|refine vT ?_|refine vF [] ?_|((first|apply gR|apply gC)<;>intro hq<;>(try simp only [nT,nF,n1,n0] at hq)<;>(have hb:=hq)<;>(try simp only [dT,dF,eT,eF] at hb)<;>first|(exfalso;omega)|((try simp only [hq]);clear hq)))<;>(try simp only [go_sem,qa,qb,qc,qd,qe,qf,qg,qh,qi,qj,qk,ql,qm,qn,qo,qp,qq,qr,qs,reduceIte,reduceCtorEq]))|refine aL ?_ fun hp=>?_|clear hK K|clear hL L)
     all_goals try omega
     all_goals try (simp;omega)
 · have e:parts l=false:=by
     cases hp:parts l with
     | false=>rfl
     | true=>exact absurd (parts_len hp) h3
   rw [e]
   refine vO tok Tryz.func131 rfl rfl Tryz.ntmps131 Tryz.results131 rfl (by decide) (fun cx hnt hk0=>?_)
   repeat' (first|refine vS fun K hK=>?_|refine hK _ ?_;clear hK K|refine hX ?_;clear hX hY X Y|((first|refine vR tok (by rw [hnt];rfl) ?_|refine vC fun X Y hX hY=>?_|refine vT ?_|refine vF [] ?_|(apply gC<;>intro hq<;>(try simp only [nT,nF,n1,n0] at hq)<;>(have hb:=hq)<;>(try simp only [dT,dF,eT,eF] at hb)<;>first|(exfalso;omega)|((try simp only [hq]);clear hq)))<;>(try simp only [go_sem,qa,qb,qc,qd,qe,qf,qg,qh,qi,qj,qk,ql,qm,qn,qo,qp,qq,qr,qs,reduceIte,reduceCtorEq])))
   all_goals try omega
theorem iBankOk_ok (b:Bank) (hn:(b.own.length:Int) < 1099511627776) (hm:(b.notes.length:Int) < 1099511627776) (hl:b.locked < 1099511627776):Call Tryz.prog 95 [b.av] [] 0 (.o (BB b.ok)) [] 0:=by
 by_cases h1:parts b.own=true
 · have s1:=parts_all h1
   by_cases h2:parts b.notes=true
   · have s2:=parts_all h2
     refine vO tok Tryz.func95 rfl rfl Tryz.ntmps95 Tryz.results95 rfl (by decide) (fun cx hnt hk0=>?_)
     repeat' (first|refine vS fun K hK=>?_|refine hK _ ?_;clear hK K|refine hY ?_;clear hX hY X Y|((first|refine vR tok (by rw [hnt];rfl) ?_|refine vC fun X Y hX hY=>?_|refine vK ?_|refine vT ?_|refine vF [] ?_|refine runS_c [] (amountTotal_ok b.own hn) rfl ?_ ?_ ?_|refine runS_c [] (amountTotal_ok b.notes hm) rfl ?_ ?_ ?_|(apply gR<;>intro hq<;>(try simp only [nT,nF,n1,n0] at hq)<;>(have hb:=hq)<;>(try simp only [dT,dF,eT,eF] at hb)<;>first|(exfalso;omega)|((try simp only [hq]);clear hq)))<;>(try simp only [go_sem,qa,qb,qc,qd,qe,qf,qg,qh,qi,qj,qk,ql,qm,qn,qo,qp,qq,qr,qs,reduceIte,reduceCtorEq,h1,h2,if_true]))|refine Fits.of ?_ ?_|refine And.intro ?_ ?_|clear hK K)
     all_goals try omega
     all_goals (rw [Bool.eq_iff_iff];simp [Bank.ok,h1,h2];omega)
   · have h2:parts b.notes=false:=by simpa using h2
     refine vO tok Tryz.func95 rfl rfl Tryz.ntmps95 Tryz.results95 rfl (by decide) (fun cx hnt hk0=>?_)
     repeat' (first|refine vS fun K hK=>?_|refine hK _ ?_;clear hK K|refine hX ?_;clear hX hY X Y|refine hY ?_;clear hX hY X Y|((first|refine vR tok (by rw [hnt];rfl) ?_|refine vC fun X Y hX hY=>?_|refine vK ?_|refine vT ?_|refine vF [] ?_|refine runS_c [] (amountTotal_ok b.own hn) rfl ?_ ?_ ?_|(refine runS_c [] (amountTotal_ok b.notes hm) rfl ?_ ?_ ?_))<;>(try simp only [go_sem,qa,qb,qc,qd,qe,qf,qg,qh,qi,qj,qk,ql,qm,qn,qo,qp,qq,qr,qs,reduceIte,reduceCtorEq,h1,h2,if_true]))|clear hK K)
     all_goals simp [Bank.ok,h2]
 · have h1:parts b.own=false:=by simpa using h1
   refine vO tok Tryz.func95 rfl rfl Tryz.ntmps95 Tryz.results95 rfl (by decide) (fun cx hnt hk0=>?_)
   repeat' (first|refine vS fun K hK=>?_|refine hK _ ?_;clear hK K|refine hX ?_;clear hX hY X Y|((first|refine vR tok (by rw [hnt];rfl) ?_|refine vC fun X Y hX hY=>?_|refine vT ?_|refine vF [] ?_|(refine runS_c [] (amountTotal_ok b.own hn) rfl ?_ ?_ ?_))<;>(try simp only [go_sem,qa,qb,qc,qd,qe,qf,qg,qh,qi,qj,qk,ql,qm,qn,qo,qp,qq,qr,qs,reduceIte,reduceCtorEq,h1,if_true]))|clear hK K)
   all_goals simp [Bank.ok,h1]
theorem iBankNew_ok:Call Tryz.prog 55 [] [] 0 (.o (.g (bankA Bank.new 0))) (bankH Bank.new 0) 2:=by
 refine vO tok Tryz.func55 rfl rfl Tryz.ntmps55 Tryz.results55 rfl (by decide) (fun cx hnt hk0=>?_)
 repeat' (first|refine vS fun K hK=>?_|refine hK _ ?_;clear hK K|refine vB ?_|((first|refine vR tok (by rw [hnt];rfl) ?_|(refine AWp.draw (id:=1) tok mixed (.all (.cons 0 (.all (.cons 1 (.all (.cons 2 (.all (.cons 3 (.all (.cons 4 .done .nil)) .nil)) (.cons 3 (.all (.cons 2 (.all (.cons 4 .done .nil)) .nil)) .nil))) (.cons 3 (.all (.cons 1 (.all (.cons 2 (.all (.cons 4 .done .nil)) .nil)) .nil)) .nil))) (.cons 1 (.all (.cons 0 (.all (.cons 2 (.all (.cons 3 (.all (.cons 4 .done .nil)) .nil)) (.cons 3 (.all (.cons 2 (.all (.cons 4 .done .nil)) .nil)) .nil))) (.cons 3 (.all (.cons 0 (.all (.cons 2 (.all (.cons 4 .done .nil)) .nil)) .nil)) .nil))) (.cons 3 (.all (.cons 0 (.all (.cons 1 (.all (.cons 2 (.all (.cons 4 .done .nil)) .nil)) .nil)) (.cons 1 (.all (.cons 0 (.all (.cons 2 (.all (.cons 4 .done .nil)) .nil)) .nil)) .nil))) .nil)))) [] [] (by kernel_rfl) (by kernel_rfl) (by rw [hnt];rfl) ?_))<;>(try simp only [go_sem,qa,qb,qc,qd,qe,qf,qg,qh,qi,qj,qk,ql,qm,qn,qo,qp,qq,qr,qs,reduceIte,reduceCtorEq,Bank.new]))|refine And.intro ?_ ?_)
 all_goals refine AWp.loopN 4 fun L hL=>?_
 repeat' (first|refine vS fun K hK=>?_|refine hK _ ?_;clear hK K|refine hX ?_;clear hX hY X Y|refine hY ?_;clear hX hY X Y|refine vB ?_|refine hL _ _ ?_|((first|refine vR tok (by rw [hnt];rfl) ?_|refine vC fun X Y hX hY=>?_|refine vK ?_|refine vE ?_|refine vT ?_|(refine vF [] ?_))<;>(try simp only [go_sem,qa,qb,qc,qd,qe,qf,qg,qh,qi,qj,qk,ql,qm,qn,qo,qp,qq,qr,qs,reduceIte,reduceCtorEq,Bank.new]))|refine Fits.of ?_ ?_|refine aL ?_ fun hp=>?_|refine And.intro ?_ ?_|clear hK K|clear hL L)
 all_goals try omega
theorem ledgerOf_ok (b:Bank) (h1:b.own.length=3) (h2:b.notes.length=3):Call Tryz.prog 96 [b.av] [] 0 (.o (.g [.mp 0,.mp 1,ci b.locked])) [(0,mapO b.own),(1,mapO b.notes)] 2:=by
 refine vO tok Tryz.func96 rfl rfl Tryz.ntmps96 Tryz.results96 rfl (by decide) (fun cx hnt hk0=>?_)

 repeat' (first|refine vS fun K hK=>?_|refine hK _ ?_;clear hK K|((first|refine vR tok (by rw [hnt];rfl) ?_|refine vT ?_|refine vF [] ?_|(refine AWp.draw (id:=1) tok mixed pl_len30 [0] [1,2] (by kernel_rfl) (by kernel_rfl) (by rw [hnt];rfl) ?_)|refine effS_c [] (amountMap_l b.own h1) rfl ?_ ?_ ?_|(refine effS_c [] (amountMap_l b.notes h2) rfl ?_ ?_ ?_))<;>(try simp only [go_sem,qa,qb,qc,qd,qe,qf,qg,qh,qi,qj,qk,ql,qm,qn,qo,qp,qq,qr,qs,reduceIte,reduceCtorEq])))
theorem ledgerBank_ok (b:Bank) (h1:b.own.length=3) (h2:b.notes.length=3):Call Tryz.prog 97 [.g [.mp 0,.mp 1,ci b.locked]] [(0,mapO b.own),(1,mapO b.notes)] 2 (.o (.g (bankA b 2))) (bankH b 2) 4:=by
 refine vO tok Tryz.func97 rfl rfl Tryz.ntmps97 Tryz.results97 rfl (by decide) (fun cx hnt hk0=>?_)

 repeat' (first|refine vS fun K hK=>?_|refine hK _ ?_;clear hK K|((first|refine vR tok (by rw [hnt];rfl) ?_|refine vT ?_|refine vF [] ?_|(refine AWp.draw (id:=1) tok mixed pl_len30 [2] [1,2] (by kernel_rfl) (by kernel_rfl) (by rw [hnt];rfl) ?_)|refine effS_c [0] (amountList_l b.own h1) rfl ?_ ?_ ?_|(refine effS_c [1] (amountList_l b.notes h2) rfl ?_ ?_ ?_))<;>(try simp only [go_sem,qa,qb,qc,qd,qe,qf,qg,qh,qi,qj,qk,ql,qm,qn,qo,qp,qq,qr,qs,reduceIte,reduceCtorEq])))
theorem iPacketOk_ok (p:Packet):Call Tryz.prog 91 [p.av] [] 0 (.o (BB p.ok)) [] 0:=by
 refine vO tok Tryz.func91 rfl rfl Tryz.ntmps91 Tryz.results91 rfl (by decide) (fun cx hnt hk0=>?_)
 repeat' (first|refine vS fun K hK=>?_|refine hK _ ?_;clear hK K|refine hX ?_;clear hX hY X Y|refine hY ?_;clear hX hY X Y|((first|refine vR tok (by rw [hnt];rfl) ?_|refine vC fun X Y hX hY=>?_|refine vK ?_|refine vT ?_|refine vF [] ?_|refine runS_c [] (userOk_ok _) rfl ?_ ?_ ?_|((first|apply gR|apply gC)<;>intro hq<;>(try simp only [nT,nF,n1,n0] at hq)<;>(have hb:=hq)<;>(try simp only [dT,dF,eT,eF] at hb)<;>first|(exfalso;omega)|((try simp only [hq]);clear hq)))<;>(try simp only [go_sem,qa,qb,qc,qd,qe,qf,qg,qh,qi,qj,qk,ql,qm,qn,qo,qp,qq,qr,qs,reduceIte,reduceCtorEq]))|clear hK K)
 all_goals (rw [Bool.eq_iff_iff,packet_iff];simp only [In,Bool.and_eq_true,decide_eq_true_eq,Bool.and_eq_false_iff,decide_eq_false_iff_not,Bool.false_eq_true,false_iff,true_iff,iff_true,iff_false] at *;omega)
def fateV (n:Int):TV:=if n=0 then .v (.iface 227 (.agg #[])) else if n=1 then .v (.iface 228 (.agg #[])) else .v (.iface 229 (.agg #[]))
theorem fateV_0 {n:Int} (h:n=0):fateV n=.v (.iface 227 (.agg #[])):=by subst h;rfl
theorem fateV_1 {n:Int} (h:n=1):fateV n=.v (.iface 228 (.agg #[])):=by subst h;rfl
theorem fateV_2 {n:Int} (h:n=2):fateV n=.v (.iface 229 (.agg #[])):=by subst h;rfl
theorem fateOf_ok (n:Int) (h:0≤n∧n≤2):Call Tryz.prog 148 [I n] [] 0 (.tup [.c (.t (fateV n)),BB true]) [] 0:=by
 rcases (show n=0 ∨ n=1 ∨ n=2 by omega) with rfl|rfl|rfl
 · rw [fateV_0 rfl]
   refine vO tok Tryz.func148 rfl rfl Tryz.ntmps148 Tryz.results148 rfl (by decide) (fun cx hnt hk0=>?_)
   repeat' (first|refine vS fun K hK=>?_|refine hK _ ?_;clear hK K|refine hX ?_;clear hX hY X Y|refine vB ?_|((first|refine vR tok (by rw [hnt];rfl) ?_|refine vC fun X Y hX hY=>?_|refine vT ?_|(refine vF [] ?_))<;>(try simp only [go_sem,qa,qb,qc,qd,qe,qf,qg,qh,qi,qj,qk,ql,qm,qn,qo,qp,qq,qr,qs,reduceIte,reduceCtorEq])))
 · rw [fateV_1 rfl]
   refine vO tok Tryz.func148 rfl rfl Tryz.ntmps148 Tryz.results148 rfl (by decide) (fun cx hnt hk0=>?_)
   repeat' (first|refine vS fun K hK=>?_|refine hK _ ?_;clear hK K|refine hX ?_;clear hX hY X Y|refine hY ?_;clear hX hY X Y|refine vB ?_|((first|refine vR tok (by rw [hnt];rfl) ?_|refine vC fun X Y hX hY=>?_|refine vT ?_|(refine vF [] ?_))<;>(try simp only [go_sem,qa,qb,qc,qd,qe,qf,qg,qh,qi,qj,qk,ql,qm,qn,qo,qp,qq,qr,qs,reduceIte,reduceCtorEq])))
 · rw [fateV_2 rfl]
   refine vO tok Tryz.func148 rfl rfl Tryz.ntmps148 Tryz.results148 rfl (by decide) (fun cx hnt hk0=>?_)
   repeat' (first|refine vS fun K hK=>?_|refine hK _ ?_;clear hK K|refine hX ?_;clear hX hY X Y|refine hY ?_;clear hX hY X Y|refine vB ?_|((first|refine vR tok (by rw [hnt];rfl) ?_|refine vC fun X Y hX hY=>?_|refine vT ?_|(refine vF [] ?_))<;>(try simp only [go_sem,qa,qb,qc,qd,qe,qf,qg,qh,qi,qj,qk,ql,qm,qn,qo,qp,qq,qr,qs,reduceIte,reduceCtorEq])))
theorem fateEntry_ok (n:Int) (h:0≤n∧n≤2):Call Tryz.prog 172 [.c (.t (fateV n))] [] 0 (.o (I n)) [] 0:=by
 rcases (show n=0 ∨ n=1 ∨ n=2 by omega) with rfl|rfl|rfl
 · rw [fateV_0 rfl]
   refine vO tok Tryz.func172 rfl rfl Tryz.ntmps172 Tryz.results172 rfl (by decide) (fun cx hnt hk0=>?_)
   repeat' (first|refine vS fun K hK=>?_|refine hK _ ?_;clear hK K|refine hY ?_;clear hX hY X Y|refine vB ?_|((first|refine vR tok (by rw [hnt];rfl) ?_|refine vC fun X Y hX hY=>?_|refine vK ?_|refine vT ?_|(refine vF [] ?_))<;>(try simp only [go_sem,qa,qb,qc,qd,qe,qf,qg,qh,qi,qj,qk,ql,qm,qn,qo,qp,qq,qr,qs,reduceIte,reduceCtorEq])))
 · rw [fateV_1 rfl]
   refine vO tok Tryz.func172 rfl rfl Tryz.ntmps172 Tryz.results172 rfl (by decide) (fun cx hnt hk0=>?_)
   repeat' (first|refine vS fun K hK=>?_|refine hK _ ?_;clear hK K|refine hX ?_;clear hX hY X Y|refine vB ?_|((first|refine vR tok (by rw [hnt];rfl) ?_|refine vC fun X Y hX hY=>?_|refine vT ?_|(refine vF [] ?_))<;>(try simp only [go_sem,qa,qb,qc,qd,qe,qf,qg,qh,qi,qj,qk,ql,qm,qn,qo,qp,qq,qr,qs,reduceIte,reduceCtorEq])))
 · rw [fateV_2 rfl]
   refine vO tok Tryz.func172 rfl rfl Tryz.ntmps172 Tryz.results172 rfl (by decide) (fun cx hnt hk0=>?_)
   repeat' (first|refine vS fun K hK=>?_|refine hK _ ?_;clear hK K|refine hX ?_;clear hX hY X Y|refine hY ?_;clear hX hY X Y|refine vB ?_|((first|refine vR tok (by rw [hnt];rfl) ?_|refine vC fun X Y hX hY=>?_|refine vT ?_|(refine vF [] ?_))<;>(try simp only [go_sem,qa,qb,qc,qd,qe,qf,qg,qh,qi,qj,qk,ql,qm,qn,qo,qp,qq,qr,qs,reduceIte,reduceCtorEq])))
theorem settled_none:Call Tryz.prog 239 [.g []] [] 0 (.o (BB false)) [] 0:=by
 refine vO tok Tryz.func239 rfl rfl Tryz.ntmps239 Tryz.results239 rfl (by decide) (fun cx hnt hk0=>?_)
 repeat' (first|refine vS fun K hK=>?_|refine hK _ ?_;clear hK K|((first|refine vR tok (by rw [hnt];rfl) ?_|refine vT ?_|(refine vF [] ?_))<;>(try simp only [go_sem,qa,qb,qc,qd,qe,qf,qg,qh,qi,qj,qk,ql,qm,qn,qo,qp,qq,qr,qs,reduceIte,reduceCtorEq])))
theorem settled_ok:Call Tryz.prog 240 [.g []] [] 0 (.o (BB true)) [] 0:=by
 refine vO tok Tryz.func240 rfl rfl Tryz.ntmps240 Tryz.results240 rfl (by decide) (fun cx hnt hk0=>?_)
 repeat' (first|refine vS fun K hK=>?_|refine hK _ ?_;clear hK K|((first|refine vR tok (by rw [hnt];rfl) ?_|refine vT ?_|(refine vF [] ?_))<;>(try simp only [go_sem,qa,qb,qc,qd,qe,qf,qg,qh,qi,qj,qk,ql,qm,qn,qo,qp,qq,qr,qs,reduceIte,reduceCtorEq])))
theorem settled_bad:Call Tryz.prog 241 [.g []] [] 0 (.o (BB true)) [] 0:=by
 refine vO tok Tryz.func241 rfl rfl Tryz.ntmps241 Tryz.results241 rfl (by decide) (fun cx hnt hk0=>?_)
 repeat' (first|refine vS fun K hK=>?_|refine hK _ ?_;clear hK K|((first|refine vR tok (by rw [hnt];rfl) ?_|refine vT ?_|(refine vF [] ?_))<;>(try simp only [go_sem,qa,qb,qc,qd,qe,qf,qg,qh,qi,qj,qk,ql,qm,qn,qo,qp,qq,qr,qs,reduceIte,reduceCtorEq])))
theorem fateAt_ok (s:State) (seq:Int) (hs:s.ok=true) (h:1≤seq∧seq≤8):Call Tryz.prog 171 [s.av,I seq] [] 0 (.o (.c (.t (fateV (s.gotAt seq))))) [] 0:=by
 obtain ⟨r1,r2,r3,r4,r5,r6,r7,r8,r9⟩:=state_ok hs
 have g:=r8 (seq - 1).toNat (by omega)
 unfold State.gotAt
 rcases (show s.got.getD (seq - 1).toNat 0=0 ∨ s.got.getD (seq - 1).toNat 0=1 ∨ s.got.getD (seq - 1).toNat 0=2 by omega) with e|e|e
 · have v:=fateV_0 e
   refine vO tok Tryz.func171 rfl rfl Tryz.ntmps171 Tryz.results171 rfl (by decide) (fun cx hnt hk0=>?_)
   repeat' (first|refine vS fun K hK=>?_|refine hK _ ?_;clear hK K|((first|refine vR tok (by rw [hnt];rfl) ?_|refine vT ?_|refine vF [] ?_|(refine runS_c [] (fateOf_ok _ g) rfl ?_ ?_ ?_))<;>(try simp only [go_sem,qa,qb,qc,qd,qe,qf,qg,qh,qi,qj,qk,ql,qm,qn,qo,qp,qq,qr,qs,reduceIte,reduceCtorEq,v]))|refine Fits.of ?_ ?_|refine aE ?_ fun hp=>?_|refine aC ?_ fun hp=>?_|refine And.intro ?_ ?_|clear hK K)
   all_goals try omega
 · have v:=fateV_1 e
   refine vO tok Tryz.func171 rfl rfl Tryz.ntmps171 Tryz.results171 rfl (by decide) (fun cx hnt hk0=>?_)
   repeat' (first|refine vS fun K hK=>?_|refine hK _ ?_;clear hK K|((first|refine vR tok (by rw [hnt];rfl) ?_|refine vT ?_|refine vF [] ?_|(refine runS_c [] (fateOf_ok _ g) rfl ?_ ?_ ?_))<;>(try simp only [go_sem,qa,qb,qc,qd,qe,qf,qg,qh,qi,qj,qk,ql,qm,qn,qo,qp,qq,qr,qs,reduceIte,reduceCtorEq,v]))|refine Fits.of ?_ ?_|refine aE ?_ fun hp=>?_|refine aC ?_ fun hp=>?_|refine And.intro ?_ ?_|clear hK K)
   all_goals try omega
 · have v:=fateV_2 e
   refine vO tok Tryz.func171 rfl rfl Tryz.ntmps171 Tryz.results171 rfl (by decide) (fun cx hnt hk0=>?_)
   repeat' (first|refine vS fun K hK=>?_|refine hK _ ?_;clear hK K|((first|refine vR tok (by rw [hnt];rfl) ?_|refine vT ?_|refine vF [] ?_|(refine runS_c [] (fateOf_ok _ g) rfl ?_ ?_ ?_))<;>(try simp only [go_sem,qa,qb,qc,qd,qe,qf,qg,qh,qi,qj,qk,ql,qm,qn,qo,qp,qq,qr,qs,reduceIte,reduceCtorEq,v]))|refine Fits.of ?_ ?_|refine aE ?_ fun hp=>?_|refine aC ?_ fun hp=>?_|refine And.intro ?_ ?_|clear hK K)
   all_goals try omega
theorem stateSentOk_yes (s:State) (hs:s.ok=true):Call Tryz.prog 107 [s.av] [] 0 (.o (BB true)) [] 0:=by
 obtain ⟨r1,r2,r3,r4,r5,r6,r7,r8,r9⟩:=state_ok hs
 refine vO tok Tryz.func107 rfl rfl Tryz.ntmps107 Tryz.results107 rfl (by decide) (fun cx hnt hk0=>?_)
 repeat' (first|refine vS fun K hK=>?_|refine hK _ ?_;clear hK K|refine hY ?_;clear hX hY X Y|refine vB ?_|((first|refine vR tok (by rw [hnt];rfl) ?_|refine vC fun X Y hX hY=>?_|refine vK ?_|((first|apply gR|apply gC)<;>intro hq<;>(try simp only [nT,nF,n1,n0] at hq)<;>(have hb:=hq)<;>(try simp only [dT,dF,eT,eF] at hb)<;>first|(exfalso;omega)|((try simp only [hq]);clear hq)))<;>(try simp only [go_sem,qa,qb,qc,qd,qe,qf,qg,qh,qi,qj,qk,ql,qm,qn,qo,qp,qq,qr,qs,reduceIte,reduceCtorEq])))
 all_goals try omega
 refine AWp.loop (fun i:Nat=>⟨[(1,.o (.c (.ptr 0 0 0 0))),(28,.o (.c (.t (packetsT s.sent)))),(29,.o (I s.sent.length)),(30,.o (I i))],[(0,s.box)],1⟩) (fun i=>i≤s.sent.length) (fun i=>s.sent.length - i) 0 (Nat.zero_le _) ?_ ?_
 · refine vL hk0 [] ?_;simp only [go_sem,qa,qb,qc,qd,qe,qf,qg,qh,qi,qj,qk,ql,qm,qn,qo,qp,qq,qr,qs,reduceIte,reduceCtorEq]
   simp
 intro i hi
 by_cases hlt:i < s.sent.length
 · obtain ⟨a1,a2,a3,a4⟩:=sentOk_iff (r7 i hlt)
   rcases a3 with a3|a3
   · repeat' (first|refine vS fun K hK=>?_|refine hK _ ?_;clear hK K|refine hX ?_;clear hX hY X Y|refine hY ?_;clear hX hY X Y|refine vB ?_|((first|refine vR tok (by rw [hnt];rfl) ?_|refine vC fun X Y hX hY=>?_|refine vK ?_|(refine runS_c [] (iPacketOk_ok (s.sent.getD i default)) rfl ?_ ?_ ?_)|refine vL hk0 [] ?_|((first|apply gR|apply gC)<;>intro hq<;>(try simp only [nT,nF,n1,n0] at hq)<;>(have hb:=hq)<;>(try simp only [dT,dF,eT,eF] at hb)<;>first|(exfalso;omega)|((try simp only [hq]);clear hq)))<;>(try simp only [go_sem,qa,qb,qc,qd,qe,qf,qg,qh,qi,qj,qk,ql,qm,qn,qo,qp,qq,qr,qs,reduceIte,reduceCtorEq,a1,a3]))|refine ⟨i+1,?_,?_,?_⟩|refine Fits.of ?_ ?_|refine aE ?_ fun hp=>?_|refine aC ?_ fun hp=>?_|refine And.intro ?_ ?_|clear hK K)
     all_goals try (first|omega|(simp only [dA,dB,dC];omega))
   · repeat' (first|refine vS fun K hK=>?_|refine hK _ ?_;clear hK K|refine hX ?_;clear hX hY X Y|refine hY ?_;clear hX hY X Y|refine vB ?_|((first|refine vR tok (by rw [hnt];rfl) ?_|refine vC fun X Y hX hY=>?_|refine vK ?_|(refine runS_c [] (iPacketOk_ok (s.sent.getD i default)) rfl ?_ ?_ ?_)|refine vL hk0 [] ?_|((first|apply gR|apply gC)<;>intro hq<;>(try simp only [nT,nF,n1,n0] at hq)<;>(have hb:=hq)<;>(try simp only [dT,dF,eT,eF] at hb)<;>first|(exfalso;omega)|((try simp only [hq]);clear hq)))<;>(try simp only [go_sem,qa,qb,qc,qd,qe,qf,qg,qh,qi,qj,qk,ql,qm,qn,qo,qp,qq,qr,qs,reduceIte,reduceCtorEq,a1,a3]))|refine ⟨i+1,?_,?_,?_⟩|refine Fits.of ?_ ?_|refine aE ?_ fun hp=>?_|refine aC ?_ fun hp=>?_|refine And.intro ?_ ?_|clear hK K)
     all_goals try (first|omega|(simp only [dA,dB,dC];omega))
 · repeat' (first|refine vS fun K hK=>?_|refine hK _ ?_;clear hK K|refine hY ?_;clear hX hY X Y|((first|refine vR tok (by rw [hnt];rfl) ?_|refine vC fun X Y hX hY=>?_|refine vE ?_|refine vT ?_|refine vF [] ?_|(apply gC<;>intro hq<;>(try simp only [nT,nF,n1,n0] at hq)<;>(have hb:=hq)<;>(try simp only [dT,dF,eT,eF] at hb)<;>first|(exfalso;omega)|((try simp only [hq]);clear hq)))<;>(try simp only [go_sem,qa,qb,qc,qd,qe,qf,qg,qh,qi,qj,qk,ql,qm,qn,qo,qp,qq,qr,qs,reduceIte,reduceCtorEq]))|clear hK K)
   all_goals try omega
theorem stateGotOk_yes (s:State) (hs:s.ok=true):Call Tryz.prog 108 [s.av] [] 0 (.o (BB true)) [] 0:=by
 obtain ⟨r1,r2,r3,r4,r5,r6,r7,r8,r9⟩:=state_ok hs
 refine vO tok Tryz.func108 rfl rfl Tryz.ntmps108 Tryz.results108 rfl (by decide) (fun cx hnt hk0=>?_)
 repeat' (first|refine vS fun K hK=>?_|refine hK _ ?_;clear hK K|refine hY ?_;clear hX hY X Y|refine vB ?_|((first|refine vR tok (by rw [hnt];rfl) ?_|refine vC fun X Y hX hY=>?_|refine vK ?_|(apply gC<;>intro hq<;>(try simp only [nT,nF,n1,n0] at hq)<;>(have hb:=hq)<;>(try simp only [dT,dF,eT,eF] at hb)<;>first|(exfalso;omega)|((try simp only [hq]);clear hq)))<;>(try simp only [go_sem,qa,qb,qc,qd,qe,qf,qg,qh,qi,qj,qk,ql,qm,qn,qo,qp,qq,qr,qs,reduceIte,reduceCtorEq])))
 all_goals try omega
 refine AWp.loop (fun i:Nat=>⟨[(12,.o (.c (.t (intsT s.got)))),(13,.o (I s.got.length)),(14,.o (I i))],[],0⟩) (fun i=>i≤s.got.length) (fun i=>s.got.length - i) 0 (Nat.zero_le _) ?_ ?_
 · refine vL hk0 [] ?_;simp only [go_sem,qa,qb,qc,qd,qe,qf,qg,qh,qi,qj,qk,ql,qm,qn,qo,qp,qq,qr,qs,reduceIte,reduceCtorEq]
   simp
 intro i hi
 by_cases hlt:i < s.got.length
 · have g:=r8 i (by omega)
   repeat' (first|refine vS fun K hK=>?_|refine hK _ ?_;clear hK K|refine hX ?_;clear hX hY X Y|refine hY ?_;clear hX hY X Y|refine vB ?_|((first|refine vR tok (by rw [hnt];rfl) ?_|refine vC fun X Y hX hY=>?_|refine vK ?_|refine runS_c [] (fateOf_ok _ g) rfl ?_ ?_ ?_|refine vL hk0 [] ?_|(apply gC<;>intro hq<;>(try simp only [nT,nF,n1,n0] at hq)<;>(have hb:=hq)<;>(try simp only [dT,dF,eT,eF] at hb)<;>first|(exfalso;omega)|((try simp only [hq]);clear hq)))<;>(try simp only [go_sem,qa,qb,qc,qd,qe,qf,qg,qh,qi,qj,qk,ql,qm,qn,qo,qp,qq,qr,qs,reduceIte,reduceCtorEq]))|refine ⟨i+1,?_,?_,?_⟩|refine Fits.of ?_ ?_|refine aE ?_ fun hp=>?_|refine aC ?_ fun hp=>?_|refine And.intro ?_ ?_|clear hK K)
   all_goals try (first|omega|(simp only [dA,dB,dC];omega))
 · repeat' (first|refine vS fun K hK=>?_|refine hK _ ?_;clear hK K|refine hY ?_;clear hX hY X Y|((first|refine vR tok (by rw [hnt];rfl) ?_|refine vC fun X Y hX hY=>?_|refine vE ?_|refine vT ?_|refine vF [] ?_|(apply gC<;>intro hq<;>(try simp only [nT,nF,n1,n0] at hq)<;>(have hb:=hq)<;>(try simp only [dT,dF,eT,eF] at hb)<;>first|(exfalso;omega)|((try simp only [hq]);clear hq)))<;>(try simp only [go_sem,qa,qb,qc,qd,qe,qf,qg,qh,qi,qj,qk,ql,qm,qn,qo,qp,qq,qr,qs,reduceIte,reduceCtorEq]))|clear hK K)
   all_goals try omega
theorem iStateOk_yes (s:State) (hs:s.ok=true):Call Tryz.prog 72 [s.av] [] 0 (.o (BB true)) [] 0:=by
 obtain ⟨r1,r2,r3,r4,r5,r6,r7,r8,r9⟩:=state_ok hs
 by_cases hw:s.way=4
 · rw [if_pos hw] at r9
   refine vO tok Tryz.func72 rfl rfl Tryz.ntmps72 Tryz.results72 rfl (by decide) (fun cx hnt hk0=>?_)
   repeat' (first|refine vS fun K hK=>?_|refine hK _ ?_;clear hK K|refine hX ?_;clear hX hY X Y|refine hY ?_;clear hX hY X Y|((first|refine vR tok (by rw [hnt];rfl) ?_|refine vC fun X Y hX hY=>?_|refine vK ?_|refine vT ?_|refine vF [] ?_|refine runS_c [] (stateSentOk_yes s hs) rfl ?_ ?_ ?_|refine runS_c [] (stateGotOk_yes s hs) rfl ?_ ?_ ?_|((first|apply gR|apply gC)<;>intro hq<;>(try simp only [nT,nF,n1,n0] at hq)<;>(have hb:=hq)<;>(try simp only [dT,dF,eT,eF] at hb)<;>first|(exfalso;omega)|((try simp only [hq]);clear hq)))<;>(try simp only [go_sem,qa,qb,qc,qd,qe,qf,qg,qh,qi,qj,qk,ql,qm,qn,qo,qp,qq,qr,qs,reduceIte,reduceCtorEq]))|refine Fits.of ?_ ?_|refine And.intro ?_ ?_|clear hK K)
   all_goals try omega
 · rw [if_neg hw] at r9
   refine vO tok Tryz.func72 rfl rfl Tryz.ntmps72 Tryz.results72 rfl (by decide) (fun cx hnt hk0=>?_)
   repeat' (first|refine vS fun K hK=>?_|refine hK _ ?_;clear hK K|refine hY ?_;clear hX hY X Y|((first|refine vR tok (by rw [hnt];rfl) ?_|refine vC fun X Y hX hY=>?_|refine vK ?_|refine vT ?_|refine vF [] ?_|refine runS_c [] (stateSentOk_yes s hs) rfl ?_ ?_ ?_|refine runS_c [] (stateGotOk_yes s hs) rfl ?_ ?_ ?_|((first|apply gR|apply gC)<;>intro hq<;>(try simp only [nT,nF,n1,n0] at hq)<;>(have hb:=hq)<;>(try simp only [dT,dF,eT,eF] at hb)<;>first|(exfalso;omega)|((try simp only [hq]);clear hq)))<;>(try simp only [go_sem,qa,qb,qc,qd,qe,qf,qg,qh,qi,qj,qk,ql,qm,qn,qo,qp,qq,qr,qs,reduceIte,reduceCtorEq])))
   all_goals try omega
theorem freshI_ok (l:List Int) (h:l.length≤1000):Call Tryz.prog 167 [.c (.t (intsT l))] [] 0 (.o (.c (.sl 0 1 0 l.length))) [(0,rI l)] 1:=by
 refine vO tok Tryz.func167 rfl rfl Tryz.ntmps167 Tryz.results167 rfl (by decide) (fun cx hnt hk0=>?_)
 repeat' (first|refine vS fun K hK=>?_|refine hK _ ?_;clear hK K|((first|refine vR tok (by rw [hnt];rfl) ?_|refine vT ?_|(refine vF [] ?_))<;>(try simp only [go_sem,qa,qb,qc,qd,qe,qf,qg,qh,qi,qj,qk,ql,qm,qn,qo,qp,qq,qr,qs,reduceIte,reduceCtorEq]))|refine aE ?_ fun hp=>?_|refine And.intro ?_ ?_|clear hK K)
 all_goals try omega
theorem freshB_ok (l:List Bool) (h:l.length≤1000):Call Tryz.prog 166 [.c (.t (boolsT l))] [] 0 (.o (.c (.sl 0 1 0 l.length))) [(0,rB l)] 1:=by
 refine vO tok Tryz.func166 rfl rfl Tryz.ntmps166 Tryz.results166 rfl (by decide) (fun cx hnt hk0=>?_)
 repeat' (first|refine vS fun K hK=>?_|refine hK _ ?_;clear hK K|((first|refine vR tok (by rw [hnt];rfl) ?_|refine vT ?_|(refine vF [] ?_))<;>(try simp only [go_sem,qa,qb,qc,qd,qe,qf,qg,qh,qi,qj,qk,ql,qm,qn,qo,qp,qq,qr,qs,reduceIte,reduceCtorEq]))|refine aE ?_ fun hp=>?_|refine And.intro ?_ ?_|clear hK K)
 all_goals try omega
theorem freshP_ok (l:List Packet) (h:l.length≤1000):Call Tryz.prog 165 [.c (.t (packetsT l))] [] 0 (.o (.c (.sl 0 7 0 l.length))) [(0,rP l)] 1:=by
 refine vO tok Tryz.func165 rfl rfl Tryz.ntmps165 Tryz.results165 rfl (by decide) (fun cx hnt hk0=>?_)
 repeat' (first|refine vS fun K hK=>?_|refine hK _ ?_;clear hK K|((first|refine vR tok (by rw [hnt];rfl) ?_|refine vT ?_|(refine vF [] ?_))<;>(try simp only [go_sem,qa,qb,qc,qd,qe,qf,qg,qh,qi,qj,qk,ql,qm,qn,qo,qp,qq,qr,qs,reduceIte,reduceCtorEq]))|refine aE ?_ fun hp=>?_|refine And.intro ?_ ?_|clear hK K)
 all_goals try omega
theorem iStateNew_ok:Call Tryz.prog 56 [] [] 0 (.o (.g (stateA State.new 0))) (stateH State.new 0) 4:=by
 refine vO tok Tryz.func56 rfl rfl Tryz.ntmps56 Tryz.results56 rfl (by decide) (fun cx hnt hk0=>?_)
 repeat' (first|refine vS fun K hK=>?_|refine hK _ ?_;clear hK K|((first|refine vR tok (by rw [hnt];rfl) ?_|refine vT ?_|(refine vF [] ?_))<;>(try simp only [go_sem,qa,qb,qc,qd,qe,qf,qg,qh,qi,qj,qk,ql,qm,qn,qo,qp,qq,qr,qs,reduceIte,reduceCtorEq,State.new])))
theorem stateCopy_ok (s:State) (h1:s.sent.length≤1000) (h2:s.live.length≤1000) (h3:s.back.length≤1000) (h4:s.got.length≤1000):Call Tryz.prog 124 [s.av] [] 0 (.o (.g (stateA s 0))) (stateH s 0) 4:=by
 refine vO tok Tryz.func124 rfl rfl Tryz.ntmps124 Tryz.results124 rfl (by decide) (fun cx hnt hk0=>?_)

 repeat' (first|refine vS fun K hK=>?_|refine hK _ ?_;clear hK K|((first|refine vR tok (by rw [hnt];rfl) ?_|refine vT ?_|refine vF [] ?_|(refine AWp.draw (id:=1) tok mixed (.tak 0 (.tak 1 (.tak 2 (.tak 3 (.tak 4 (.tak 5 (.tak 6 (.tak 7 (.tak 9 (.tak 10 (.tak 12 (.tak 13 (.tak 15 (.tak 16 (.all (.cons 8 (.all (.cons 11 (.all (.cons 14 (.all (.cons 17 (.all (.cons 18 (.all (.cons 19 .done .nil)) .nil)) .nil)) .nil)) .nil)) .nil)))))))))))))))) [0] [1,2] (by kernel_rfl) (by kernel_rfl) (by rw [hnt];rfl) ?_)|refine effS_c [] (freshP_ok s.sent h1) rfl ?_ ?_ ?_|refine effS_c [] (freshB_ok s.live h2) rfl ?_ ?_ ?_|refine effS_c [] (freshB_ok s.back h3) rfl ?_ ?_ ?_|(refine effS_c [] (freshI_ok s.got h4) rfl ?_ ?_ ?_))<;>(try simp only [go_sem,qa,qb,qc,qd,qe,qf,qg,qh,qi,qj,qk,ql,qm,qn,qo,qp,qq,qr,qs,reduceIte,reduceCtorEq])))
 all_goals try omega
theorem StateGot_yes (s:State) (seq:Int) (hs:s.ok=true) (h:1≤seq∧seq≤8):Call Tryz.prog 138 [s.av,I seq] [] 0 (.o (I (s.gotAt seq))) [] 0:=by
 obtain ⟨r1,r2,r3,r4,r5,r6,r7,r8,r9⟩:=state_ok hs
 have g:=r8 (seq - 1).toNat (by omega)
 have a1:=fateAt_ok s seq hs h
 have a2:=fateEntry_ok (s.gotAt seq) g
 rcases (show s.gotAt seq=0 ∨ s.gotAt seq=1 ∨ s.gotAt seq=2 by unfold State.gotAt;omega) with e|e|e
 · have v:=fateV_0 e
   rw [v] at a1 a2
   refine vO tok Tryz.func138 rfl rfl Tryz.ntmps138 Tryz.results138 rfl (by decide) (fun cx hnt hk0=>?_)
   repeat' (first|refine vS fun K hK=>?_|refine hK _ ?_;clear hK K|refine hY ?_;clear hX hY X Y|((first|refine vR tok (by rw [hnt];rfl) ?_|refine vC fun X Y hX hY=>?_|refine vK ?_|refine vT ?_|refine vF [] ?_|refine runS_c [] (iStateOk_yes s hs) rfl ?_ ?_ ?_|refine runS_c [] (a1) rfl ?_ ?_ ?_|refine runS_c [] (a2) rfl ?_ ?_ ?_|(apply gR<;>intro hq<;>(try simp only [nT,nF,n1,n0] at hq)<;>(have hb:=hq)<;>(try simp only [dT,dF,eT,eF] at hb)<;>first|(exfalso;omega)|((try simp only [hq]);clear hq)))<;>(try simp only [go_sem,qa,qb,qc,qd,qe,qf,qg,qh,qi,qj,qk,ql,qm,qn,qo,qp,qq,qr,qs,reduceIte,reduceCtorEq])))
   all_goals try omega
 · have v:=fateV_1 e
   rw [v] at a1 a2
   refine vO tok Tryz.func138 rfl rfl Tryz.ntmps138 Tryz.results138 rfl (by decide) (fun cx hnt hk0=>?_)
   repeat' (first|refine vS fun K hK=>?_|refine hK _ ?_;clear hK K|refine hY ?_;clear hX hY X Y|((first|refine vR tok (by rw [hnt];rfl) ?_|refine vC fun X Y hX hY=>?_|refine vK ?_|refine vT ?_|refine vF [] ?_|refine runS_c [] (iStateOk_yes s hs) rfl ?_ ?_ ?_|refine runS_c [] (a1) rfl ?_ ?_ ?_|refine runS_c [] (a2) rfl ?_ ?_ ?_|(apply gR<;>intro hq<;>(try simp only [nT,nF,n1,n0] at hq)<;>(have hb:=hq)<;>(try simp only [dT,dF,eT,eF] at hb)<;>first|(exfalso;omega)|((try simp only [hq]);clear hq)))<;>(try simp only [go_sem,qa,qb,qc,qd,qe,qf,qg,qh,qi,qj,qk,ql,qm,qn,qo,qp,qq,qr,qs,reduceIte,reduceCtorEq])))
   all_goals try omega
 · have v:=fateV_2 e
   rw [v] at a1 a2
   refine vO tok Tryz.func138 rfl rfl Tryz.ntmps138 Tryz.results138 rfl (by decide) (fun cx hnt hk0=>?_)
   repeat' (first|refine vS fun K hK=>?_|refine hK _ ?_;clear hK K|refine hY ?_;clear hX hY X Y|((first|refine vR tok (by rw [hnt];rfl) ?_|refine vC fun X Y hX hY=>?_|refine vK ?_|refine vT ?_|refine vF [] ?_|refine runS_c [] (iStateOk_yes s hs) rfl ?_ ?_ ?_|refine runS_c [] (a1) rfl ?_ ?_ ?_|refine runS_c [] (a2) rfl ?_ ?_ ?_|(apply gR<;>intro hq<;>(try simp only [nT,nF,n1,n0] at hq)<;>(have hb:=hq)<;>(try simp only [dT,dF,eT,eF] at hb)<;>first|(exfalso;omega)|((try simp only [hq]);clear hq)))<;>(try simp only [go_sem,qa,qb,qc,qd,qe,qf,qg,qh,qi,qj,qk,ql,qm,qn,qo,qp,qq,qr,qs,reduceIte,reduceCtorEq])))
   all_goals try omega
def State.settledV (s:State) (seq:Int):Int :=
 if In seq 1 s.sent.length then (if s.live.getD (seq - 1).toNat false then 1 else if s.back.getD (seq - 1).toNat false then 3 else 2) else 0
theorem StateSettled_yes (s:State) (seq:Int) (hs:s.ok=true):Call Tryz.prog 44 [s.av,I seq] [] 0 (.o (I (s.settledV seq))) [] 0:=by
 obtain ⟨r1,r2,r3,r4,r5,r6,r7,r8,r9⟩:=state_ok hs
 unfold State.settledV
 by_cases hi:In seq 1 s.sent.length=true
 · rw [if_pos hi]
   rw [In_iff] at hi
   cases e1:s.live.getD (seq - 1).toNat false
   · cases e2:s.back.getD (seq - 1).toNat false
     · refine vO tok Tryz.func44 rfl rfl Tryz.ntmps44 Tryz.results44 rfl (by decide) (fun cx hnt hk0=>?_)
       repeat' (first|refine vS fun K hK=>?_|refine hK _ ?_;clear hK K|refine hY ?_;clear hX hY X Y|refine vB ?_|((first|refine vR tok (by rw [hnt];rfl) ?_|refine vC fun X Y hX hY=>?_|refine vK ?_|refine vT ?_|refine vF [] ?_|refine runS_c [] (iStateOk_yes s hs) rfl ?_ ?_ ?_|((first|apply gR|apply gC)<;>intro hq<;>(try simp only [nT,nF,n1,n0] at hq)<;>(have hb:=hq)<;>(try simp only [dT,dF,eT,eF] at hb)<;>first|(exfalso;omega)|((try simp only [hq]);clear hq)))<;>(try simp only [go_sem,qa,qb,qc,qd,qe,qf,qg,qh,qi,qj,qk,ql,qm,qn,qo,qp,qq,qr,qs,reduceIte,reduceCtorEq,e1,e2,Bool.false_eq_true,if_false]))|refine Fits.of ?_ ?_|refine aE ?_ fun hp=>?_|refine aC ?_ fun hp=>?_|refine And.intro ?_ ?_|clear hK K)
       all_goals try omega
     · refine vO tok Tryz.func44 rfl rfl Tryz.ntmps44 Tryz.results44 rfl (by decide) (fun cx hnt hk0=>?_)
       repeat' (first|refine vS fun K hK=>?_|refine hK _ ?_;clear hK K|refine hX ?_;clear hX hY X Y|refine hY ?_;clear hX hY X Y|refine vB ?_|((first|refine vR tok (by rw [hnt];rfl) ?_|refine vC fun X Y hX hY=>?_|refine vK ?_|refine vT ?_|refine vF [] ?_|refine runS_c [] (iStateOk_yes s hs) rfl ?_ ?_ ?_|((first|apply gR|apply gC)<;>intro hq<;>(try simp only [nT,nF,n1,n0] at hq)<;>(have hb:=hq)<;>(try simp only [dT,dF,eT,eF] at hb)<;>first|(exfalso;omega)|((try simp only [hq]);clear hq)))<;>(try simp only [go_sem,qa,qb,qc,qd,qe,qf,qg,qh,qi,qj,qk,ql,qm,qn,qo,qp,qq,qr,qs,reduceIte,reduceCtorEq,e1,e2,Bool.false_eq_true,if_false,if_true]))|refine Fits.of ?_ ?_|refine aE ?_ fun hp=>?_|refine aC ?_ fun hp=>?_|refine And.intro ?_ ?_|clear hK K)
       all_goals try omega
   · refine vO tok Tryz.func44 rfl rfl Tryz.ntmps44 Tryz.results44 rfl (by decide) (fun cx hnt hk0=>?_)
     repeat' (first|refine vS fun K hK=>?_|refine hK _ ?_;clear hK K|refine hX ?_;clear hX hY X Y|refine hY ?_;clear hX hY X Y|refine vB ?_|((first|refine vR tok (by rw [hnt];rfl) ?_|refine vC fun X Y hX hY=>?_|refine vK ?_|refine vT ?_|refine vF [] ?_|refine runS_c [] (iStateOk_yes s hs) rfl ?_ ?_ ?_|((first|apply gR|apply gC)<;>intro hq<;>(try simp only [nT,nF,n1,n0] at hq)<;>(have hb:=hq)<;>(try simp only [dT,dF,eT,eF] at hb)<;>first|(exfalso;omega)|((try simp only [hq]);clear hq)))<;>(try simp only [go_sem,qa,qb,qc,qd,qe,qf,qg,qh,qi,qj,qk,ql,qm,qn,qo,qp,qq,qr,qs,reduceIte,reduceCtorEq,e1,if_true]))|refine Fits.of ?_ ?_|refine aE ?_ fun hp=>?_|refine aC ?_ fun hp=>?_|refine And.intro ?_ ?_|clear hK K)
     all_goals try omega
 · rw [if_neg hi]
   rw [In_iff] at hi
   refine vO tok Tryz.func44 rfl rfl Tryz.ntmps44 Tryz.results44 rfl (by decide) (fun cx hnt hk0=>?_)
   repeat' (first|refine vS fun K hK=>?_|refine hK _ ?_;clear hK K|refine hX ?_;clear hX hY X Y|((first|refine vR tok (by rw [hnt];rfl) ?_|refine vC fun X Y hX hY=>?_|refine vT ?_|refine vF [] ?_|refine runS_c [] (iStateOk_yes s hs) rfl ?_ ?_ ?_|((first|apply gR|apply gC)<;>intro hq<;>(try simp only [nT,nF,n1,n0] at hq)<;>(have hb:=hq)<;>(try simp only [dT,dF,eT,eF] at hb)<;>first|(exfalso;omega)|((try simp only [hq]);clear hq)))<;>(try simp only [go_sem,qa,qb,qc,qd,qe,qf,qg,qh,qi,qj,qk,ql,qm,qn,qo,qp,qq,qr,qs,reduceIte,reduceCtorEq])))
   all_goals try omega
theorem Packet.eqb (x p:Packet):(decide (x.seq=p.seq) && (decide (x.kind=p.kind) && (decide (x.src=p.src) && (decide (x.dst=p.dst) && (decide (x.sum=p.sum) && (decide (x.till=p.till) && decide (x.ver=p.ver)))))))=decide (x=p):=by
 rw [Bool.eq_iff_iff]
 simp only [Bool.and_eq_true,decide_eq_true_eq,Packet.eq_iff]
theorem StateHas_yes (s:State) (p:Packet) (hs:s.ok=true):Call Tryz.prog 170 [s.av,p.av] [] 0 (.o (BB (s.hasB p))) [] 0:=by
 obtain ⟨r1,r2,r3,r4,r5,r6,r7,r8,r9⟩:=state_ok hs
 unfold State.hasB
 by_cases hi:In p.seq 1 s.sent.length=true
 · rw [hi]
   rw [In_iff] at hi
   refine vO tok Tryz.func170 rfl rfl Tryz.ntmps170 Tryz.results170 rfl (by decide) (fun cx hnt hk0=>?_)

   repeat' (first|refine vS fun K hK=>?_|refine hK _ ?_;clear hK K|refine hY ?_;clear hX hY X Y|((first|refine vR tok (by rw [hnt];rfl) ?_|refine vC fun X Y hX hY=>?_|refine vK ?_|refine vT ?_|refine vF [] ?_|refine runS_c [] (iStateOk_yes s hs) rfl ?_ ?_ ?_|(refine AWp.draw (id:=3) tok mixed (.tak 0 (.tak 1 (.tak 2 (.tak 3 (.tak 4 (.tak 5 (.tak 6 (.tak 7 (.tak 8 (.tak 9 (.tak 10 (.tak 11 (.tak 12 (.tak 13 (.tak 14 (.tak 15 (.tak 16 (.tak 17 (.tak 18 .done))))))))))))))))))) [0,1] [2,3] (by kernel_rfl) (by kernel_rfl) (by rw [hnt];rfl) ?_)|((first|apply gR|apply gC|apply gT)<;>intro hq<;>(try simp only [nT,nF,n1,n0] at hq)<;>(have hb:=hq)<;>(try simp only [dT,dF,eT,eF] at hb)<;>first|(exfalso;omega)|((try simp only [hq]);clear hq)))<;>(try simp only [go_sem,qa,qb,qc,qd,qe,qf,qg,qh,qi,qj,qk,ql,qm,qn,qo,qp,qq,qr,qs,reduceIte,reduceCtorEq,Packet.eqb]))|refine Fits.of ?_ ?_|refine aE ?_ fun hp=>?_|refine aC ?_ fun hp=>?_|refine And.intro ?_ ?_|clear hK K)
   all_goals try omega
   all_goals first|rw [decide_eq_true hb,Bool.true_and]|rw [decide_eq_false hb,Bool.false_and]
 · have hi':In p.seq 1 s.sent.length=false:=by simpa using hi
   rw [hi']
   rw [In_iff] at hi
   refine vO tok Tryz.func170 rfl rfl Tryz.ntmps170 Tryz.results170 rfl (by decide) (fun cx hnt hk0=>?_)
   repeat' (first|refine vS fun K hK=>?_|refine hK _ ?_;clear hK K|refine hX ?_;clear hX hY X Y|((first|refine vR tok (by rw [hnt];rfl) ?_|refine vC fun X Y hX hY=>?_|refine vT ?_|refine vF [] ?_|refine runS_c [] (iStateOk_yes s hs) rfl ?_ ?_ ?_|((first|apply gR|apply gC)<;>intro hq<;>(try simp only [nT,nF,n1,n0] at hq)<;>(have hb:=hq)<;>(try simp only [dT,dF,eT,eF] at hb)<;>first|(exfalso;omega)|((try simp only [hq]);clear hq)))<;>(try simp only [go_sem,qa,qb,qc,qd,qe,qf,qg,qh,qi,qj,qk,ql,qm,qn,qo,qp,qq,qr,qs,reduceIte,reduceCtorEq])))
   all_goals try omega
theorem wayIdle_ok (s:State) (hn:s.live.length≤1000):Call Tryz.prog 217 [s.av] [] 0 (.o (BB (decide ((s.lives:Int)=0)))) [] 0:=by
 by_cases h0:s.lives=0
 · have hz:=fun n=>lives_zero h0 n
   have e:decide ((s.lives:Int)=0)=true:=by simp [h0]
   rw [e]
   refine vO tok Tryz.func217 rfl rfl Tryz.ntmps217 Tryz.results217 rfl (by decide) (fun cx hnt hk0=>?_)
   repeat' (first|refine vS fun K hK=>?_|refine hK _ ?_;clear hK K|refine vB ?_|((refine vR tok (by rw [hnt];rfl) ?_)<;>(try simp only [go_sem,qa,qb,qc,qd,qe,qf,qg,qh,qi,qj,qk,ql,qm,qn,qo,qp,qq,qr,qs,reduceIte,reduceCtorEq])))
   refine AWp.loop (fun i:Nat=>⟨[(6,.o (.c (.t (boolsT s.live)))),(7,.o (I s.live.length)),(8,.o (I i))],[],0⟩) (fun i=>i≤s.live.length) (fun i=>s.live.length - i) 0 (Nat.zero_le _) ?_ ?_
   · refine vL hk0 [] ?_;simp only [go_sem,qa,qb,qc,qd,qe,qf,qg,qh,qi,qj,qk,ql,qm,qn,qo,qp,qq,qr,qs,reduceIte,reduceCtorEq]
     simp
   intro i hi
   repeat' (first|refine vS fun K hK=>?_|refine hK _ ?_;clear hK K|refine hX ?_;clear hX hY X Y|refine hY ?_;clear hX hY X Y|refine vB ?_|((first|refine vR tok (by rw [hnt];rfl) ?_|refine vC fun X Y hX hY=>?_|refine vK ?_|refine vE ?_|refine vT ?_|refine vF [] ?_|refine vL hk0 [] ?_|(apply gC<;>intro hq<;>(try simp only [nT,nF,n1,n0] at hq)<;>(have hb:=hq)<;>(try simp only [dT,dF,eT,eF] at hb)<;>first|(exfalso;omega)|((try simp only [hq]);clear hq)))<;>(try simp only [go_sem,qa,qb,qc,qd,qe,qf,qg,qh,qi,qj,qk,ql,qm,qn,qo,qp,qq,qr,qs,reduceIte,reduceCtorEq,hz]))|refine ⟨i+1,?_,?_,?_⟩|refine Fits.of ?_ ?_|refine aE ?_ fun hp=>?_|refine aC ?_ fun hp=>?_|refine And.intro ?_ ?_|clear hK K)
   all_goals try (first|omega|(simp only [dA,dB,dC];omega))
 · have e:decide ((s.lives:Int)=0)=false:=by simp;omega
   rw [e]
   obtain ⟨k,hk,hk2⟩:∃ k,k < s.live.length∧s.live.getD k false=true:=by
     refine Classical.byContradiction fun hno=>h0 ?_
     unfold State.lives liveN
     rw [List.filter_eq_nil_iff.2]
     · rfl
     · intro a ha
       obtain ⟨i,hi,rfl⟩:=List.mem_iff_getElem.1 ha
       intro ht
       exact hno ⟨i,hi,by simpa [List.getD,hi] using ht⟩
   refine vO tok Tryz.func217 rfl rfl Tryz.ntmps217 Tryz.results217 rfl (by decide) (fun cx hnt hk0=>?_)
   repeat' (first|refine vS fun K hK=>?_|refine hK _ ?_;clear hK K|refine vB ?_|((refine vR tok (by rw [hnt];rfl) ?_)<;>(try simp only [go_sem,qa,qb,qc,qd,qe,qf,qg,qh,qi,qj,qk,ql,qm,qn,qo,qp,qq,qr,qs,reduceIte,reduceCtorEq])))
   refine AWp.loop (fun i:Nat=>⟨[(6,.o (.c (.t (boolsT s.live)))),(7,.o (I s.live.length)),(8,.o (I i))],[],0⟩) (fun i=>i≤k) (fun i=>s.live.length - i) 0 (Nat.zero_le _) ?_ ?_
   · refine vL hk0 [] ?_;simp only [go_sem,qa,qb,qc,qd,qe,qf,qg,qh,qi,qj,qk,ql,qm,qn,qo,qp,qq,qr,qs,reduceIte,reduceCtorEq]
     simp
   intro i hi
   by_cases hik:i=k
   · subst hik
     repeat' (first|refine vS fun K hK=>?_|refine hK _ ?_;clear hK K|refine hX ?_;clear hX hY X Y|refine vB ?_|((first|refine vR tok (by rw [hnt];rfl) ?_|refine vC fun X Y hX hY=>?_|refine vK ?_|refine vT ?_|refine vF [] ?_|(apply gC<;>intro hq<;>(try simp only [nT,nF,n1,n0] at hq)<;>(have hb:=hq)<;>(try simp only [dT,dF,eT,eF] at hb)<;>first|(exfalso;omega)|((try simp only [hq]);clear hq)))<;>(try simp only [go_sem,qa,qb,qc,qd,qe,qf,qg,qh,qi,qj,qk,ql,qm,qn,qo,qp,qq,qr,qs,reduceIte,reduceCtorEq,hk2]))|refine aE ?_ fun hp=>?_|refine aC ?_ fun hp=>?_|clear hK K)
     all_goals try (first|omega|(simp only [dA,dB,dC];omega))
   · repeat' (first|refine vS fun K hK=>?_|refine hK _ ?_;clear hK K|refine hX ?_;clear hX hY X Y|refine hY ?_;clear hX hY X Y|refine vB ?_|((first|refine vR tok (by rw [hnt];rfl) ?_|refine vC fun X Y hX hY=>?_|refine vK ?_|refine vT ?_|refine vF [] ?_|refine vL hk0 [] ?_|(apply gC<;>intro hq<;>(try simp only [nT,nF,n1,n0] at hq)<;>(have hb:=hq)<;>(try simp only [dT,dF,eT,eF] at hb)<;>first|(exfalso;omega)|((try simp only [hq]);clear hq)))<;>(try simp only [go_sem,qa,qb,qc,qd,qe,qf,qg,qh,qi,qj,qk,ql,qm,qn,qo,qp,qq,qr,qs,reduceIte,reduceCtorEq]))|refine ⟨i+1,?_,?_,?_⟩|refine Fits.of ?_ ?_|refine aE ?_ fun hp=>?_|refine aC ?_ fun hp=>?_|refine And.intro ?_ ?_|clear hK K)
     all_goals try (first|omega|(simp only [dA,dB,dC];omega))
@[go_sem ↓] theorem colC_t {k:Nat} {x:Cell} {y:TV}:colC k x (.t y)=[]:=by
 cases x with
 | t x=>unfold colC;split<;>first|rfl|(rename_i h;cases h)
 | _=>rfl
def marksT:List State→TV
 | []=>.v (.pointer none)
 | s ::r=>.ptr 8 fun j=>if j=7 then marksT r else s.tv j
def markF (s:State) (r:List State) (j:Nat):TV:=if j=7 then marksT r else s.tv j
theorem marksT_cons (s:State) (r:List State):marksT (s ::r)=.ptr 8 (markF s r):=rfl
@[go_sem] theorem markF_7 (s:State) (r:List State):markF s r 7=marksT r:=rfl
@[go_sem] theorem markF_0 (s:State) (r:List State):markF s r 0=s.tv 0:=rfl
@[go_sem] theorem markF_1 (s:State) (r:List State):markF s r 1=s.tv 1:=rfl
@[go_sem] theorem markF_2 (s:State) (r:List State):markF s r 2=s.tv 2:=rfl
@[go_sem] theorem markF_3 (s:State) (r:List State):markF s r 3=s.tv 3:=rfl
@[go_sem] theorem markF_4 (s:State) (r:List State):markF s r 4=s.tv 4:=rfl
@[go_sem] theorem markF_5 (s:State) (r:List State):markF s r 5=s.tv 5:=rfl
@[go_sem] theorem markF_6 (s:State) (r:List State):markF s r 6=s.tv 6:=rfl
attribute [go_sem] marksT_cons
@[go_sem] theorem marksT_nil:marksT []=.v (.pointer none):=rfl
def linkA (c:Chain) (h:Nat):List Cell:=bankA c.bank h++(.t (.v (.int .i64 c.id)) ::(stateA c.state (h+2)++[.t (marksT c.past.reverse),.t (.v (.int .i64 c.past.length)),.sl (h+6) 1 0 c.knows.length]))
def linkH (c:Chain) (h0 h:Nat):Heap:=(h0,.box (linkA c h)) ::(bankH c.bank h++(stateH c.state (h+2)++[(h+6,rI c.knows)]))
attribute [go_sem] linkA linkH
theorem linkNew_ok (id:Int):Call Tryz.prog 31 [I id] [] 0 (.o (.c (.ptr 0 0 0 0))) (linkH (Chain.new id) 0 1) 8:=by
 refine vO tok Tryz.func31 rfl rfl Tryz.ntmps31 Tryz.results31 rfl (by decide) (fun cx hnt hk0=>?_)
 repeat' (first|refine vS fun K hK=>?_|refine hK _ ?_;clear hK K|((first|refine vR tok (by rw [hnt];rfl) ?_|refine vT ?_|refine vF [] ?_|refine runS_c [] (iBankNew_ok) rfl ?_ ?_ ?_|(refine runS_c [] (iStateNew_ok) rfl ?_ ?_ ?_))<;>(try simp only [go_sem,qa,qb,qc,qd,qe,qf,qg,qh,qi,qj,qk,ql,qm,qn,qo,qp,qq,qr,qs,reduceIte,reduceCtorEq,Chain.new,Bank.new,State.new,List.reverse_nil])))
 all_goals rfl
theorem record_ok (c:Chain) (hs:c.state.ok=true) (hp:(c.past.length:Int) < 1000):Call Tryz.prog 88 [.c (.ptr 0 0 0 0),.g (stateA c.state 3)] (linkH c 0 1) 8 (.tup []) (linkH { c with past:=c.past++[c.state] } 0 8) 15:=by
 obtain ⟨r1,r2,r3,r4,r5,r6,r7,r8,r9⟩:=state_ok hs
 refine vO tok Tryz.func88 rfl rfl Tryz.ntmps88 Tryz.results88 rfl (by decide) (fun cx hnt hk0=>?_)


 repeat' (first|refine vS fun K hK=>?_|refine hK _ ?_;clear hK K|((first|refine vR tok (by rw [hnt];rfl) ?_|refine vF [9,10,11,12,13] ?_|(refine AWp.draw (id:=1) tok mixed (.tak 0 (.tak 1 (.tak 3 (.tak 4 (.tak 5 (.all (.cons 2 (.all (.cons 6 (.all (.cons 7 (.all (.cons 8 (.tak 9 (.tak 10 (.all (.cons 11 .done .nil)))) .nil)) .nil)) .nil)) (.cons 6 (.all (.cons 2 (.all (.cons 7 (.all (.cons 8 (.tak 9 (.tak 10 (.all (.cons 11 .done .nil)))) .nil)) .nil)) .nil)) .nil)))))))) [8] [0,3] (by kernel_rfl) (by kernel_rfl) (by rw [hnt];rfl) ?_)|(refine effS_v [] (stateCopy_ok c.state (by omega) (by omega) (by omega) (by omega)) ?_ ?_ ?_ ?_ ?_))<;>(try simp only [go_sem,qa,qb,qc,qd,qe,qf,qg,qh,qi,qj,qk,ql,qm,qn,qo,qp,qq,qr,qs,reduceIte,reduceCtorEq,List.reverse_append,List.reverse_cons,List.reverse_nil,List.nil_append,List.cons_append]))|refine Fits.of ?_ ?_|refine And.intro ?_ ?_)
 all_goals try omega
theorem iblock_ok (c:Chain) (hs:c.state.ok=true) (hp:(c.past.length:Int) < 1000):Call Tryz.prog 64 [.c (.ptr 0 0 0 0)] (linkH c 0 1) 8 (.tup []) (linkH c.block 0 8) 15:=by
 unfold Chain.block
 by_cases h:(c.past.length:Int) < 90
 · rw [if_pos h]
   refine vO tok Tryz.func64 rfl rfl Tryz.ntmps64 Tryz.results64 rfl (by decide) (fun cx hnt hk0=>?_)
   repeat' (first|refine vS fun K hK=>?_|refine hK _ ?_;clear hK K|refine hX ?_;clear hX hY X Y|((first|refine vR tok (by rw [hnt];rfl) ?_|refine vC fun X Y hX hY=>?_|refine vF [] ?_|refine runS_c [0,1,2,3,4,5,6,7] (record_ok c hs hp) rfl ?_ ?_ ?_|(apply gC<;>intro hq<;>(try simp only [nT,nF,n1,n0] at hq)<;>(have hb:=hq)<;>(try simp only [dT,dF,eT,eF] at hb)<;>first|(exfalso;omega)|((try simp only [hq]);clear hq)))<;>(try simp only [go_sem,qa,qb,qc,qd,qe,qf,qg,qh,qi,qj,qk,ql,qm,qn,qo,qp,qq,qr,qs,reduceIte,reduceCtorEq])))
   all_goals try omega
 · rw [if_neg h]
   refine vO tok Tryz.func64 rfl rfl Tryz.ntmps64 Tryz.results64 rfl (by decide) (fun cx hnt hk0=>?_)
   repeat' (first|refine vS fun K hK=>?_|refine hK _ ?_;clear hK K|refine hY ?_;clear hX hY X Y|((first|refine vR tok (by rw [hnt];rfl) ?_|refine vC fun X Y hX hY=>?_|refine vK ?_|refine vF [] ?_|(apply gC<;>intro hq<;>(try simp only [nT,nF,n1,n0] at hq)<;>(have hb:=hq)<;>(try simp only [dT,dF,eT,eF] at hb)<;>first|(exfalso;omega)|((try simp only [hq]);clear hq)))<;>(try simp only [go_sem,qa,qb,qc,qd,qe,qf,qg,qh,qi,qj,qk,ql,qm,qn,qo,qp,qq,qr,qs,reduceIte,reduceCtorEq])))
   all_goals try omega
@[go_sem ↓] theorem ren_bufO {g:Nat→Nat} {l:Str} {z:Nat}:(bufO l z).ren g=bufO l z:=by
 unfold bufO;split
 · show AObj.row 1 0 _=AObj.row 1 0 _
   congr 1;funext i j;unfold fY cy;split<;>rfl
 · show AObj.tbx 5 ((bys l z).map (Cell.ren g))=_
   congr 1
   simp only [bys,List.map_append,List.map_map,List.map_replicate];rfl
@[go_sem ↓] theorem flat_bufO {l:Str} {z:Nat}:(bufO l z).flat=True:=by
 refine eq_true ?_
 unfold bufO;split
 · intro i hi;omega
 · show allP Cell.flat (bys l z)
   have:∀ xs:List Cell,(∀ x ∈ xs,x.flat)→allP Cell.flat xs:=by
     intro xs;induction xs with
     | nil=>intro _;trivial
     | cons x xs ih=>intro h;exact ⟨h x (by simp),ih fun y hy=>h y (by simp [hy])⟩
   refine this _ fun x hx=>?_
   rcases List.mem_append.1 hx with h|h
   · obtain ⟨b,_,rfl⟩:=List.mem_map.1 h;trivial
   · rw [List.eq_of_mem_replicate h];trivial
@[go_sem ↓] theorem ole_bufO {H:Heap} {fz:Nat→Prop} {τ:List (Nat × Nat)} {N:Nat} {l:Str} {z:Nat}:ole H fz τ N (bufO l z) (bufO l z)=True:=by
 refine eq_true ?_
 unfold bufO;split
 · exact ⟨rfl,Nat.le_refl _,fun i hi=>by omega⟩
 · refine ⟨rfl,?_⟩
   have:∀ xs:List Cell,(∀ x ∈ xs,∃ v,x=.t (.v v))→All2 (cle H fz τ N) xs xs:=by
     intro xs;induction xs with
     | nil=>intro _;trivial
     | cons x xs ih =>
       intro h
       obtain ⟨v,rfl⟩:=h x (by simp)
       exact ⟨by simp [cle_t,tof_t,tle_refl],ih fun y hy=>h y (by simp [hy])⟩
   refine this _ fun x hx=>?_
   rcases List.mem_append.1 hx with h|h
   · obtain ⟨b,_,rfl⟩:=List.mem_map.1 h;exact ⟨_,rfl⟩
   · rw [List.eq_of_mem_replicate h];exact ⟨_,rfl⟩
@[go_sem ↓] theorem void_bufO {z:Nat}:(bufO [] z).void=true:=rfl
@[go_sem ↓] theorem colH_bufO {k h:Nat} {H r:Heap} {τ:List (Nat × Nat)} {l:Str} {z:Nat}:colH k H ((h,bufO l z) ::r) τ=colH k H r τ:=by
 unfold bufO
 split
 · rfl
 · show colH k H r (colO k τ (bys l z) (look (rn τ h) H))=_
   congr 1
   have hc:∀ (l:List Cell) (xs:List Cell),(∀ x ∈ xs,∃ v,x=.t (.v v))→colL k l xs=[]:=by
     intro l
     induction l with
     | nil=>intro xs _;cases xs<;>rfl
     | cons a l ih=>intro xs h;cases xs with
       | nil=>rfl
       | cons x xs =>
         obtain ⟨v,rfl⟩:=h x (by simp)
         show colC k a (.t (.v v))++colL k l xs=[]
         rw [colC_t,ih xs fun y hy=>h y (by simp [hy])];rfl
   have hb:∀ x ∈ bys l z,∃ v,x=.t (.v v):=by
     intro x hx
     rcases List.mem_append.1 hx with h|h
     · obtain ⟨b,_,rfl⟩:=List.mem_map.1 h;exact ⟨_,rfl⟩
     · rw [List.eq_of_mem_replicate h];exact ⟨_,rfl⟩
   unfold colO
   split
   · rw [hc _ _ hb,List.append_nil]
   · rw [hc _ _ hb,List.append_nil]
   · rfl
theorem WriteString_ok (u:Bool) (l:Str) (m:Str) (z:Nat) (hm:m ≠ []) (hl:l.length+m.length≤1000000) :
   CallX (α:=Nat) Tryz.prog 34 [.c (.ptr 0 0 0 0),U m] [(0,.tbx 37 [bldC 0 0 u,.sl 1 1 0 l.length]),(1,bufO l z)] 2 (fun _=>True) (fun _=>.tup [I m.length,.c (.t (.v .nilIface))]) (fun z'=>[(0,.tbx 37 [bldC 0 0 true,.sl 2 1 0 (l++m).length]),(2,bufO (l++m) z')]) 3:=by
 have cc:Call Tryz.prog 60 [.c (.ptr 0 0 0 0)] [(0,.tbx 37 [bldC 0 0 u,.sl 1 1 0 l.length])] 2 (.tup []) [(0,.tbx 37 [.ptr 0 0 0 0,.sl 1 1 0 l.length])] 2:=copy_call (T:=37) (o:=0) (n:=2) (l:=[bldC 0 0 u,.sl 1 1 0 l.length]) (u:=u) rfl (by decide) rfl lies37
 refine vO tok Tryz.func34 rfl rfl Tryz.ntmps34 Tryz.results34 rfl (by decide) (fun cx hnt hk0=>?_)
 have hR:=fun (ops:List Oper) (Q:Exit→St→Prop) (s:St) (hd:dstOk cx.nt ops=true) h=>AWp.regN (P:=Tryz.prog) (c:=cx) (Q:=Q) (s:=s) (ops:=ops) (id:=2) 6 tok hd h
 repeat' (first|refine hR _ _ _ (dst_of hnt rfl) ?_|refine vS fun K hK=>?_|refine hK _ ?_;clear hK K|((first|refine vR tok (by rw [hnt];rfl) ?_|(refine runS_c [0,1] (cc) rfl ?_ ?_ ?_))<;>(try simp only [go_sem,qa,qb,qc,qd,qe,qf,qg,qh,qi,qj,qk,ql,qm,qn,qo,qp,qq,qr,qs,reduceIte,reduceCtorEq])))
 simp only [go_sem,qa,qb,qc,qd,qe,qf,qg,qh,qi,qj,qk,ql,qm,qn,qo,qp,qq,qr,qs,reduceIte,reduceCtorEq,List.take_succ_cons,List.take_zero,List.length_cons,List.length_nil,List.drop_succ_cons,List.drop_zero]
 skip
 refine AWpI.appB tok (dst_of hnt rfl) rfl rfl rfl (k:=1) (z:=z) (l:=l) (m:=m) rfl rfl (by decide) rfl Tryz.underlying22 Tryz.underlying9 (fun q h=>by cases h) hm rfl rfl (.inl rfl) hl (fun z2=>?_)
 refine AWpI.upTo 2 tok (dst_of hnt rfl) (by decide) ?_
 simp only [go_sem,qa,qb,qc,qd,qe,qf,qg,qh,qi,qj,qk,ql,qm,qn,qo,qp,qq,qr,qs,reduceIte,reduceCtorEq,List.take_succ_cons,List.take_zero,List.length_cons,List.length_nil,List.drop_succ_cons,List.drop_zero]
 skip
 refine AWpI.storeT tok rfl rfl rfl rfl (tx:=_) rfl rfl (h:=0) rfl rfl (y:=_) rfl (by simp) ?_
 refine AWpI.done (by decide) ?_
 simp only [go_sem,qa,qb,qc,qd,qe,qf,qg,qh,qi,qj,qk,ql,qm,qn,qo,qp,qq,qr,qs,reduceIte,reduceCtorEq,List.set_cons_zero,List.set_cons_succ,bldC]
 repeat' (first|refine vS fun K hK=>?_|refine hK _ ?_;clear hK K|((first|refine vR tok (by rw [hnt];rfl) ?_|(refine vT ?_))<;>(try simp only [go_sem,qa,qb,qc,qd,qe,qf,qg,qh,qi,qj,qk,ql,qm,qn,qo,qp,qq,qr,qs,reduceIte,reduceCtorEq,bldC])))
 refine ⟨z2,?_⟩
 refine vF [] ?_
 simp only [go_sem,qa,qb,qc,qd,qe,qf,qg,qh,qi,qj,qk,ql,qm,qn,qo,qp,qq,qr,qs,reduceIte,reduceCtorEq]
 skip
 all_goals first|omega|trivial
theorem WriteByte_ok (u:Bool) (l:Str) (b:UInt8) (z:Nat) (hl:l.length+1≤1000000) :
   CallX (α:=Nat) Tryz.prog 46 [.c (.ptr 0 0 0 0),.c (.t (.v (.int .u8 b.toNat)))] [(0,.tbx 37 [bldC 0 0 u,.sl 1 1 0 l.length]),(1,bufO l z)] 2 (fun _=>True) (fun _=>.o (.c (.t (.v .nilIface)))) (fun z'=>[(0,.tbx 37 [bldC 0 0 true,.sl 2 1 0 (l++[b]).length]),(2,bufO (l++[b]) z')]) 3:=by
 have cc:Call Tryz.prog 60 [.c (.ptr 0 0 0 0)] [(0,.tbx 37 [bldC 0 0 u,.sl 1 1 0 l.length])] 2 (.tup []) [(0,.tbx 37 [.ptr 0 0 0 0,.sl 1 1 0 l.length])] 2:=copy_call (T:=37) (o:=0) (n:=2) (l:=[bldC 0 0 u,.sl 1 1 0 l.length]) (u:=u) rfl (by decide) rfl lies37
 refine vO tok Tryz.func46 rfl rfl Tryz.ntmps46 Tryz.results46 rfl (by decide) (fun cx hnt hk0=>?_)
 have hR:=fun (ops:List Oper) (Q:Exit→St→Prop) (s:St) (hd:dstOk cx.nt ops=true) h=>AWp.regN (P:=Tryz.prog) (c:=cx) (Q:=Q) (s:=s) (ops:=ops) (id:=2) 7 tok hd h
 repeat' (first|refine hR _ _ _ (dst_of hnt rfl) ?_|refine vS fun K hK=>?_|refine hK _ ?_;clear hK K|((first|refine vR tok (by rw [hnt];rfl) ?_|(refine runS_c [0,1] (cc) rfl ?_ ?_ ?_))<;>(try simp only [go_sem,qa,qb,qc,qd,qe,qf,qg,qh,qi,qj,qk,ql,qm,qn,qo,qp,qq,qr,qs,reduceIte,reduceCtorEq])))
 simp only [go_sem,qa,qb,qc,qd,qe,qf,qg,qh,qi,qj,qk,ql,qm,qn,qo,qp,qq,qr,qs,reduceIte,reduceCtorEq,List.take_succ_cons,List.take_zero,List.length_cons,List.length_nil,List.drop_succ_cons,List.drop_zero]
 skip
 refine AWpI.appB tok (dst_of hnt rfl) rfl rfl rfl (k:=1) (z:=z) (l:=l) (m:=[b]) rfl rfl (by decide) rfl Tryz.underlying22 Tryz.underlying22 (fun q h=>by cases h) (by simp) rfl rfl (.inr ⟨_,b,rfl,rfl,rfl⟩) (by simpa using hl) (fun z2=>?_)
 refine AWpI.upTo 2 tok (dst_of hnt rfl) (by decide) ?_
 simp only [go_sem,qa,qb,qc,qd,qe,qf,qg,qh,qi,qj,qk,ql,qm,qn,qo,qp,qq,qr,qs,reduceIte,reduceCtorEq,List.take_succ_cons,List.take_zero,List.length_cons,List.length_nil,List.drop_succ_cons,List.drop_zero]
 skip
 refine AWpI.storeT tok rfl rfl rfl rfl (tx:=_) rfl rfl (h:=0) rfl rfl (y:=_) rfl (by simp) ?_
 refine AWpI.done (by decide) ?_
 simp only [go_sem,qa,qb,qc,qd,qe,qf,qg,qh,qi,qj,qk,ql,qm,qn,qo,qp,qq,qr,qs,reduceIte,reduceCtorEq,List.set_cons_zero,List.set_cons_succ,bldC]
 repeat' (first|refine vS fun K hK=>?_|refine hK _ ?_;clear hK K|((first|refine vR tok (by rw [hnt];rfl) ?_|(refine vT ?_))<;>(try simp only [go_sem,qa,qb,qc,qd,qe,qf,qg,qh,qi,qj,qk,ql,qm,qn,qo,qp,qq,qr,qs,reduceIte,reduceCtorEq,bldC])))
 refine ⟨z2,?_⟩
 refine vF [] ?_
 simp only [go_sem,qa,qb,qc,qd,qe,qf,qg,qh,qi,qj,qk,ql,qm,qn,qo,qp,qq,qr,qs,reduceIte,reduceCtorEq]
 skip
 all_goals first|omega|trivial
theorem WriteStringL_ok (u:Bool) (l:Str) (m:Str) (z:Nat) (hm:m ≠ []) (hl:l.length+m.length≤1000000) :
   CallX (α:=Nat) Tryz.prog 34 [.c (.ptr 0 0 0 1),U m] [(0,.tbx 39 [.ptr 1 0 0 0,bldC 1 0 u,.sl 2 1 0 l.length]),(2,bufO l z)] 3 (fun _=>True) (fun _=>.tup [I m.length,.c (.t (.v .nilIface))]) (fun z'=>[(0,.tbx 39 [.ptr 1 0 0 0,bldC 1 0 true,.sl 3 1 0 (l++m).length]),(3,bufO (l++m) z')]) 4:=by
 have cc:Call Tryz.prog 60 [.c (.ptr 0 0 0 1)] [(0,.tbx 39 [.ptr 1 0 0 0,bldC 1 0 u,.sl 2 1 0 l.length])] 3 (.tup []) [(0,.tbx 39 [.ptr 1 0 0 0,.ptr 0 0 0 1,.sl 2 1 0 l.length])] 3:=copy_call (T:=39) (o:=1) (n:=3) (l:=[.ptr 1 0 0 0,bldC 1 0 u,.sl 2 1 0 l.length]) (u:=u) rfl (by decide) rfl lies39
 refine vO tok Tryz.func34 rfl rfl Tryz.ntmps34 Tryz.results34 rfl (by decide) (fun cx hnt hk0=>?_)
 have hR:=fun (ops:List Oper) (Q:Exit→St→Prop) (s:St) (hd:dstOk cx.nt ops=true) h=>AWp.regN (P:=Tryz.prog) (c:=cx) (Q:=Q) (s:=s) (ops:=ops) (id:=2) 6 tok hd h
 repeat' (first|refine hR _ _ _ (dst_of hnt rfl) ?_|refine vS fun K hK=>?_|refine hK _ ?_;clear hK K|((first|refine vR tok (by rw [hnt];rfl) ?_|(refine runS_c [0,1,2] (cc) rfl ?_ ?_ ?_))<;>(try simp only [go_sem,qa,qb,qc,qd,qe,qf,qg,qh,qi,qj,qk,ql,qm,qn,qo,qp,qq,qr,qs,reduceIte,reduceCtorEq])))
 simp only [go_sem,qa,qb,qc,qd,qe,qf,qg,qh,qi,qj,qk,ql,qm,qn,qo,qp,qq,qr,qs,reduceIte,reduceCtorEq,List.take_succ_cons,List.take_zero,List.length_cons,List.length_nil,List.drop_succ_cons,List.drop_zero]
 skip
 refine AWpI.appB tok (dst_of hnt rfl) rfl rfl rfl (k:=2) (z:=z) (l:=l) (m:=m) rfl rfl (by decide) rfl Tryz.underlying22 Tryz.underlying9 (fun q h=>by cases h) hm rfl rfl (.inl rfl) hl (fun z2=>?_)
 refine AWpI.upTo 2 tok (dst_of hnt rfl) (by decide) ?_
 simp only [go_sem,qa,qb,qc,qd,qe,qf,qg,qh,qi,qj,qk,ql,qm,qn,qo,qp,qq,qr,qs,reduceIte,reduceCtorEq,List.take_succ_cons,List.take_zero,List.length_cons,List.length_nil,List.drop_succ_cons,List.drop_zero]
 skip
 refine AWpI.storeT tok rfl rfl rfl rfl (tx:=_) rfl rfl (h:=0) rfl rfl (y:=_) rfl (by simp) ?_
 refine AWpI.done (by decide) ?_
 simp only [go_sem,qa,qb,qc,qd,qe,qf,qg,qh,qi,qj,qk,ql,qm,qn,qo,qp,qq,qr,qs,reduceIte,reduceCtorEq,List.set_cons_zero,List.set_cons_succ,bldC]
 repeat' (first|refine vS fun K hK=>?_|refine hK _ ?_;clear hK K|((first|refine vR tok (by rw [hnt];rfl) ?_|(refine vT ?_))<;>(try simp only [go_sem,qa,qb,qc,qd,qe,qf,qg,qh,qi,qj,qk,ql,qm,qn,qo,qp,qq,qr,qs,reduceIte,reduceCtorEq,bldC])))
 refine ⟨z2,?_⟩
 refine vF [] ?_
 simp only [go_sem,qa,qb,qc,qd,qe,qf,qg,qh,qi,qj,qk,ql,qm,qn,qo,qp,qq,qr,qs,reduceIte,reduceCtorEq]
 skip
 all_goals first|omega|trivial
theorem WriteByteL_ok (u:Bool) (l:Str) (b:UInt8) (z:Nat) (hl:l.length+1≤1000000) :
   CallX (α:=Nat) Tryz.prog 46 [.c (.ptr 0 0 0 1),.c (.t (.v (.int .u8 b.toNat)))] [(0,.tbx 39 [.ptr 1 0 0 0,bldC 1 0 u,.sl 2 1 0 l.length]),(2,bufO l z)] 3 (fun _=>True) (fun _=>.o (.c (.t (.v .nilIface)))) (fun z'=>[(0,.tbx 39 [.ptr 1 0 0 0,bldC 1 0 true,.sl 3 1 0 (l++[b]).length]),(3,bufO (l++[b]) z')]) 4:=by
 have cc:Call Tryz.prog 60 [.c (.ptr 0 0 0 1)] [(0,.tbx 39 [.ptr 1 0 0 0,bldC 1 0 u,.sl 2 1 0 l.length])] 3 (.tup []) [(0,.tbx 39 [.ptr 1 0 0 0,.ptr 0 0 0 1,.sl 2 1 0 l.length])] 3:=copy_call (T:=39) (o:=1) (n:=3) (l:=[.ptr 1 0 0 0,bldC 1 0 u,.sl 2 1 0 l.length]) (u:=u) rfl (by decide) rfl lies39
 refine vO tok Tryz.func46 rfl rfl Tryz.ntmps46 Tryz.results46 rfl (by decide) (fun cx hnt hk0=>?_)
 have hR:=fun (ops:List Oper) (Q:Exit→St→Prop) (s:St) (hd:dstOk cx.nt ops=true) h=>AWp.regN (P:=Tryz.prog) (c:=cx) (Q:=Q) (s:=s) (ops:=ops) (id:=2) 7 tok hd h
 repeat' (first|refine hR _ _ _ (dst_of hnt rfl) ?_|refine vS fun K hK=>?_|refine hK _ ?_;clear hK K|((first|refine vR tok (by rw [hnt];rfl) ?_|(refine runS_c [0,1,2] (cc) rfl ?_ ?_ ?_))<;>(try simp only [go_sem,qa,qb,qc,qd,qe,qf,qg,qh,qi,qj,qk,ql,qm,qn,qo,qp,qq,qr,qs,reduceIte,reduceCtorEq])))
 simp only [go_sem,qa,qb,qc,qd,qe,qf,qg,qh,qi,qj,qk,ql,qm,qn,qo,qp,qq,qr,qs,reduceIte,reduceCtorEq,List.take_succ_cons,List.take_zero,List.length_cons,List.length_nil,List.drop_succ_cons,List.drop_zero]
 skip
 refine AWpI.appB tok (dst_of hnt rfl) rfl rfl rfl (k:=2) (z:=z) (l:=l) (m:=[b]) rfl rfl (by decide) rfl Tryz.underlying22 Tryz.underlying22 (fun q h=>by cases h) (by simp) rfl rfl (.inr ⟨_,b,rfl,rfl,rfl⟩) (by simpa using hl) (fun z2=>?_)
 refine AWpI.upTo 2 tok (dst_of hnt rfl) (by decide) ?_
 simp only [go_sem,qa,qb,qc,qd,qe,qf,qg,qh,qi,qj,qk,ql,qm,qn,qo,qp,qq,qr,qs,reduceIte,reduceCtorEq,List.take_succ_cons,List.take_zero,List.length_cons,List.length_nil,List.drop_succ_cons,List.drop_zero]
 skip
 refine AWpI.storeT tok rfl rfl rfl rfl (tx:=_) rfl rfl (h:=0) rfl rfl (y:=_) rfl (by simp) ?_
 refine AWpI.done (by decide) ?_
 simp only [go_sem,qa,qb,qc,qd,qe,qf,qg,qh,qi,qj,qk,ql,qm,qn,qo,qp,qq,qr,qs,reduceIte,reduceCtorEq,List.set_cons_zero,List.set_cons_succ,bldC]
 repeat' (first|refine vS fun K hK=>?_|refine hK _ ?_;clear hK K|((first|refine vR tok (by rw [hnt];rfl) ?_|(refine vT ?_))<;>(try simp only [go_sem,qa,qb,qc,qd,qe,qf,qg,qh,qi,qj,qk,ql,qm,qn,qo,qp,qq,qr,qs,reduceIte,reduceCtorEq,bldC])))
 refine ⟨z2,?_⟩
 refine vF [] ?_
 simp only [go_sem,qa,qb,qc,qd,qe,qf,qg,qh,qi,qj,qk,ql,qm,qn,qo,qp,qq,qr,qs,reduceIte,reduceCtorEq]
 skip
 all_goals first|omega|trivial
end Go.Hw
namespace Go.Hw
open Go.Proofs Go.RowKit
theorem cellsByte:Tryz.prog.cellsOf 5=1:=by kernel_rfl
theorem mixedL:Tryz.prog.follows .mixedOrders=true:=by kernel_rfl
theorem string_row (b o g cap z:Nat) (T:TypeId) (cs cur:Array Value) (l:Str) (w:World) (h0:l ≠ []) (hb:w.heap[b]? = some (.cells cs T (0,0))) (hv:cs[o+1]? = some (.slice (some ⟨g,0,none⟩) l.length cap)) (hg:w.heap[g]? = some (.cells cur 5 (0,0))) (hcur:cur.toList=byV l z) (hlc:l.length≤cap) (hcap:cap≤9223372036854775807) :
   Calls Tryz.prog 24 #[.pointer (some ⟨b,o,none⟩)] w fun e w'=>e=.returned (.string ⟨l.toArray⟩)∧w'=w.drew.freeze ⟨g,0,none⟩ l.length:=by
 have mixed:=mixedL
 have hl0:l.length ≠ 0:=by simpa using h0
 have hsz:l.length≤cur.size:=by rw [← Array.length_toList,hcur,byV_len];omega
 have c1:w.drew.cell? ⟨b,o+1,none⟩=some (.slice (some ⟨g,0,none⟩) l.length cap):=by
   have:w.drew.heap[b]? = some (.cells cs T (0,0)):=hb
   rw [Lib.cell_of_heap this];exact hv
 have hSD:∀ ty,(Builtin.unsafeSliceData_ #[22] ty #[.slice (some ⟨g,0,none⟩) l.length cap]).run Tryz.prog w.drew=.ok (.pointer (some ⟨g,0,none⟩)) w.drew:=fun ty =>
   Lib.run_unsafeSliceData_row _ _ _ _ _ _ (by omega)
 have hUS:∀ ty,(Builtin.unsafeString_ #[92,3] ty #[.pointer (some ⟨g,0,none⟩),.int .i64 l.length]).run Tryz.prog w.drew=.ok (.string ⟨l.toArray⟩) (w.drew.freeze ⟨g,0,none⟩ l.length):=by
   intro ty
   refine Lib.run_unsafeString_row w.drew 92 3 ty 5 Tryz.underlying92 cellsByte g cur.size (by have hg':w.drew.heap[g]? = some (.cells cur 5 (0,0)):=hg;simp [World.shape?,hg']) l h0 (by omega) (by omega) ?_
   intro j x hx
   have hg':w.drew.heap[g]? = some (.cells cur 5 (0,0)):=hg
   rw [Addr.add_lit,Lib.cell_of_heap hg',Nat.zero_add]
   have:cur.toList[j]? = some (.int .u8 x.toNat):=by
     rw [hcur];unfold byV
     rw [List.getElem?_append,if_pos (by simpa using (List.getElem?_eq_some_iff.1 hx).1),List.getElem?_map,hx];rfl
   simpa using this
 go_enter Tryz.func24,Tryz.ntmps24
 go_wp2
 go_region_o
 all_goals (go_wp2;go_ret;exact ⟨rfl,rfl⟩)
theorem freeze_ne {w:World} {g n x:Nat} (h:x ≠ g):(w.freeze ⟨g,0,none⟩ n).heap[x]? = w.heap[x]?:=by
 unfold World.freeze
 split
 · rfl
 · simp only [Array.getElem?_modify];rw [if_neg (Ne.symm h)]
theorem freeze_rest {w:World} {g n:Nat}:(w.freeze ⟨g,0,none⟩ n).os=w.os∧(w.freeze ⟨g,0,none⟩ n).tape=w.tape∧(w.freeze ⟨g,0,none⟩ n).output=w.output∧(w.freeze ⟨g,0,none⟩ n).heap.size=w.heap.size:=by
 unfold World.freeze
 split
 · exact ⟨rfl,rfl,rfl,rfl⟩
 · exact ⟨rfl,rfl,rfl,by simp⟩
theorem String_call {T:TypeId} {o r k z:Nat} {cl:List Cell} {l:Str} (h0:l ≠ []) (hr0:r ≠ 0) (hlo:cl[o+1]? = some (.sl r 1 0 l.length)) :
   Call Tryz.prog 24 [.c (.ptr 0 0 0 o)] [(0,.tbx T cl),(r,bufO l z)] k (.o (U l)) [] k:=by
 refine ⟨⟨_,Tryz.func24,by kernel_rfl,by kernel_rfl⟩,Nat.le_refl _,fun w A ρ vs hvs hH hA hρ=>?_⟩
 obtain ⟨vs⟩:=vs
 match vs,hvs with
 | [v],⟨⟨b,m,hk,hv⟩,_⟩ =>
 have hv:v=.pointer (some ⟨b,o,none⟩):=by simpa using hv
 subst hv
 have hl0:l.length ≠ 0:=by simpa using h0
 obtain ⟨b',m',hk',⟨cs,hc,hm,hall⟩,hnA,hlt⟩:=hH.objs (0,.tbx T cl) (by simp) trivial
 have hk':ρ 0=some (b',m'):=hk'
 rw [hk] at hk';injection hk' with hk';injection hk' with e1 e2;subst e1;subst e2
 have hbuf:bufO l z=.tbx 5 (bys l z):=by unfold bufO;rw [if_neg h0]
 obtain ⟨g,mg,hkg,hgat,hgA,hglt⟩:=hH.objs (r,bufO l z) (by simp) (by show (bufO l z).real;rw [hbuf];trivial)
 have hgat:(bufO l z).At w A ρ g mg:=hgat
 rw [hbuf] at hgat
 obtain ⟨cur,hgc,hgm,hgall⟩:=hgat
 have hcur:=bys_val l z hgall
 obtain ⟨zv,hz1,hz2⟩:=All2.get hall hlo
 have hz1:cs[o+1]? = some zv:=by simpa using hz1
 rcases hz2 with ⟨h,_⟩|⟨_,b2,m2,cap,hk2,rfl,⟨hc1,hc2⟩,hc3⟩
 · exact absurd h hl0
 have hkg:ρ r=some (g,mg):=hkg
 rw [hkg] at hk2;injection hk2 with hk2;injection hk2 with e1 e2;subst e1;subst e2
 rw [Nat.zero_mul] at hz1
 refine (string_row b o g cap z T cs cur l w h0 hc hz1 hgc hcur hc1 hc2).mono ?_
 rintro e w' ⟨rfl,rfl⟩
 obtain ⟨f1,f2,f3,f4⟩:=freeze_rest (w:=w.drew) (g:=g) (n:=l.length)
 have hbg:blkOf ρ [(0,.tbx T cl),(r,bufO l z)] g:=⟨(r,bufO l z),by simp,by show (bufO l z).real;rw [hbuf];trivial,mg,hkg⟩
 refine ⟨(),_,A,ρ,trivial,rfl,⟨rfl,rfl⟩,⟨fun x hx=>(by cases hx),List.Pairwise.nil⟩,f1,f2,f3,by rw [f4];exact Nat.le_refl _,fun x _ hn=>freeze_ne (fun e=>hn (e ▸ hbg)),fun x hx=>⟨by rw [f4];exact hA x hx,.inl hx⟩,fun y hy=>(by cases hy),fun _ _=>rfl,hρ⟩
end Go.Hw
namespace Go.Proofs
open Go.Shelf
def Tryz.lays156_ren:Go.Shelf.Ren:=⟨fun|156=>45|165=>73|166=>34|169=>24|240=>60|241=>109|276=>87|277=>149|n=>n,fun|31=>40|9=>9|3=>3|4=>4|0=>0|20=>20|72=>37|76=>67|70=>35|37=>22|75=>66|127=>92|164=>133|5=>5|80=>43|n=>n,fun|n=>n⟩
theorem Tryz.lays156:Go.Proofs.Lays.n156 Tryz.prog Tryz.lays156_ren:={
 mixed:=by kernel_rfl
 f156:=Tryz.func45.trans (congrArg some (by kernel_rfl))
 f165:=Tryz.func73.trans (congrArg some (by kernel_rfl))
 f166:=Tryz.func34.trans (congrArg some (by kernel_rfl))
 f169:=Tryz.func24.trans (congrArg some (by kernel_rfl))
 f240:=Tryz.func60.trans (congrArg some (by kernel_rfl))
 f241:=Tryz.func109.trans (congrArg some (by kernel_rfl))
 f276:=Tryz.func87.trans (congrArg some (by kernel_rfl))
 f277:=Tryz.func149.trans (congrArg some (by kernel_rfl))
 t0:=Tryz.underlying0
 a0:=Tryz.isAgg0
 z0:=Tryz.sizeOf0
 v0:=Tryz.zeroValue0
 t3:=Tryz.underlying3
 a3:=Tryz.isAgg3
 z3:=Tryz.sizeOf3
 v3:=Tryz.zeroValue3
 t4:=Tryz.underlying4
 a4:=Tryz.isAgg4
 z4:=Tryz.sizeOf4
 v4:=Tryz.zeroValue4
 t9:=Tryz.underlying9
 a9:=Tryz.isAgg9
 z9:=Tryz.sizeOf9
 v9:=Tryz.zeroValue9
 t20:=Tryz.underlying20
 a20:=Tryz.isAgg20
 z20:=Tryz.sizeOf20
 v20:=Tryz.zeroValue20
 t31:=Tryz.underlying40
 a31:=Tryz.isAgg40
 z31:=Tryz.sizeOf40
 v31:=Tryz.zeroValue40
 t37:=Tryz.underlying22
 a37:=Tryz.isAgg22
 z37:=Tryz.sizeOf22
 v37:=Tryz.zeroValue22
 t70:=Tryz.underlying35
 a70:=Tryz.isAgg35
 z70:=Tryz.sizeOf35
 v70:=Tryz.zeroValue35
 t72:=Tryz.underlying37
 a72:=Tryz.isAgg37
 z72:=Tryz.sizeOf37
 v72:=Tryz.zeroValue37
 t75:=Tryz.underlying66
 a75:=Tryz.isAgg66
 z75:=Tryz.sizeOf66
 v75:=Tryz.zeroValue66
 t76:=Tryz.underlying67
 a76:=Tryz.isAgg67
 z76:=Tryz.sizeOf67
 v76:=Tryz.zeroValue67
 t127:=Tryz.underlying92
 a127:=Tryz.isAgg92
 z127:=Tryz.sizeOf92
 v127:=Tryz.zeroValue92
 t164:=Tryz.underlying133
 a164:=Tryz.isAgg133
 z164:=Tryz.sizeOf133
 v164:=Tryz.zeroValue133 }
theorem Tryz.Builder_Extra_156:Builder.Extra Tryz.prog Tryz.lays156_ren:={
 sizeBuilder:=by kernel_rfl
 liesBuilder:=by kernel_rfl
 t5:=Tryz.underlying5
 a5:=Tryz.isAgg5
 z5:=Tryz.sizeOf5
 v5:=Tryz.zeroValue5
 infoByte:=by kernel_rfl
 cellsByte:=by kernel_rfl
 sizeByte:=by kernel_rfl
 neB5:=by decide }
open Go.RowKit in
theorem Tryz.strings_Join (bk o c:Nat) (xs:List ByteArray) (sep:ByteArray) (w:World) (hcells:∀ (j:Nat) x,xs[j]? = some x→w.cell? ⟨bk,o+j,none⟩=some (.string x)) (hbk:bk < w.heap.size) (hN:xs.length≤140737488355328) (hcap:xs.length≤c) (hlen:(Lib.join (xs.map (·.data.toList)) sep.data.toList).length≤140737488355328) :
   Calls Tryz.prog 45 #[.slice (some ⟨bk,o,none⟩) xs.length c,.string sep] w fun e w'=>e=.returned (.string ⟨(Lib.join (xs.map (·.data.toList)) sep.data.toList).toArray⟩)∧Below w.heap.size w w':=Any.strings_Join Tryz.lays156 Tryz.Builder_Extra_156 bk o c xs sep w hcells hbk hN hcap hlen
def Tryz.lays171_ren:Go.Shelf.Ren:=⟨fun|171=>40|243=>71|246=>106|283=>144|284=>145|285=>146|286=>147|129=>180|317=>179|318=>181|319=>182|320=>183|337=>196|338=>197|n=>n,fun|3=>3|9=>9|2=>2|4=>4|171=>180|0=>0|53=>181|37=>22|5=>5|173=>184|212=>224|51=>201|20=>20|213=>225|46=>164|232=>260|233=>261|n=>n,fun|17=>4|18=>5|19=>6|n=>n⟩
theorem Tryz.lays171:Go.Proofs.Lays.n171 Tryz.prog Tryz.lays171_ren:={
 mixed:=by kernel_rfl
 f129:=Tryz.func180.trans (congrArg some (by kernel_rfl))
 f171:=Tryz.func40.trans (congrArg some (by kernel_rfl))
 f243:=Tryz.func71.trans (congrArg some (by kernel_rfl))
 f246:=Tryz.func106.trans (congrArg some (by kernel_rfl))
 f283:=Tryz.func144.trans (congrArg some (by kernel_rfl))
 f284:=Tryz.func145.trans (congrArg some (by kernel_rfl))
 f285:=Tryz.func146.trans (congrArg some (by kernel_rfl))
 f286:=Tryz.func147.trans (congrArg some (by kernel_rfl))
 f317:=Tryz.func179.trans (congrArg some (by kernel_rfl))
 f318:=Tryz.func181.trans (congrArg some (by kernel_rfl))
 f319:=Tryz.func182.trans (congrArg some (by kernel_rfl))
 f320:=Tryz.func183.trans (congrArg some (by kernel_rfl))
 f337:=Tryz.func196.trans (congrArg some (by kernel_rfl))
 f338:=Tryz.func197.trans (congrArg some (by kernel_rfl))
 t0:=Tryz.underlying0
 a0:=Tryz.isAgg0
 z0:=Tryz.sizeOf0
 v0:=Tryz.zeroValue0
 t2:=Tryz.underlying2
 a2:=Tryz.isAgg2
 z2:=Tryz.sizeOf2
 v2:=Tryz.zeroValue2
 t3:=Tryz.underlying3
 a3:=Tryz.isAgg3
 z3:=Tryz.sizeOf3
 v3:=Tryz.zeroValue3
 t4:=Tryz.underlying4
 a4:=Tryz.isAgg4
 z4:=Tryz.sizeOf4
 v4:=Tryz.zeroValue4
 t5:=Tryz.underlying5
 a5:=Tryz.isAgg5
 z5:=Tryz.sizeOf5
 v5:=Tryz.zeroValue5
 t9:=Tryz.underlying9
 a9:=Tryz.isAgg9
 z9:=Tryz.sizeOf9
 v9:=Tryz.zeroValue9
 t20:=Tryz.underlying20
 a20:=Tryz.isAgg20
 z20:=Tryz.sizeOf20
 v20:=Tryz.zeroValue20
 t37:=Tryz.underlying22
 a37:=Tryz.isAgg22
 z37:=Tryz.sizeOf22
 v37:=Tryz.zeroValue22
 t46:=Tryz.underlying164
 a46:=Tryz.isAgg164
 z46:=Tryz.sizeOf164
 v46:=Tryz.zeroValue164
 t51:=Tryz.underlying201
 a51:=Tryz.isAgg201
 z51:=Tryz.sizeOf201
 v51:=Tryz.zeroValue201
 t53:=Tryz.underlying181
 a53:=Tryz.isAgg181
 z53:=Tryz.sizeOf181
 v53:=Tryz.zeroValue181
 t171:=Tryz.underlying180
 a171:=Tryz.isAgg180
 z171:=Tryz.sizeOf180
 v171:=Tryz.zeroValue180
 t173:=Tryz.underlying184
 a173:=Tryz.isAgg184
 z173:=Tryz.sizeOf184
 v173:=Tryz.zeroValue184
 t212:=Tryz.underlying224
 a212:=Tryz.isAgg224
 z212:=Tryz.sizeOf224
 v212:=Tryz.zeroValue224
 t213:=Tryz.underlying225
 a213:=Tryz.isAgg225
 z213:=Tryz.sizeOf225
 t232:=Tryz.underlying260
 a232:=Tryz.isAgg260
 z232:=Tryz.sizeOf260
 v232:=Tryz.zeroValue260
 t233:=Tryz.underlying261
 a233:=Tryz.isAgg261
 z233:=Tryz.sizeOf261
 v233:=Tryz.zeroValue261
 g17:=by kernel_rfl
 g18:=by kernel_rfl
 g19:=by kernel_rfl }
open Go.RowKit Go.Sort Go.Lib in
theorem Tryz.strconv_Itoa_small (i:Nat) (hi:i < 100) (w:World) :
   Calls Tryz.prog 40 #[.int .i64 i] w fun e w'=>e=.returned (.string ⟨(Lib.decDigits i).toArray⟩)∧w'=w:=Any.strconv_Itoa_small Tryz.lays171 i hi w
def Tryz.laysC172_ren:Go.Shelf.Ren:=⟨fun|172=>174|244=>193|245=>194|247=>212|279=>213|280=>214|281=>215|282=>216|287=>218|316=>219|171=>40|205=>220|321=>221|322=>222|243=>71|246=>106|283=>144|284=>145|285=>146|286=>147|129=>180|317=>179|318=>181|319=>182|320=>183|337=>196|338=>197|n=>n,fun|9=>9|3=>3|75=>66|76=>67|4=>4|5=>5|167=>254|37=>22|0=>0|85=>255|2=>2|168=>257|53=>181|175=>262|46=>164|210=>265|127=>92|145=>270|143=>268|21=>21|171=>180|173=>184|212=>224|51=>201|20=>20|213=>225|232=>260|233=>261|80=>43|n=>n,fun|15=>7|16=>8|17=>4|18=>5|19=>6|n=>n⟩
theorem Tryz.laysC172:Go.Proofs.LaysC.n172 Tryz.prog Tryz.laysC172_ren:={
 mixed:=by kernel_rfl
 f129:=Tryz.func180.trans (congrArg some (by kernel_rfl))
 f171:=Tryz.func40.trans (congrArg some (by kernel_rfl))
 f172:=Tryz.func174.trans (congrArg some (by kernel_rfl))
 f205:=Tryz.func220.trans (congrArg some (by kernel_rfl))
 f243:=Tryz.func71.trans (congrArg some (by kernel_rfl))
 f244:=Tryz.func193.trans (congrArg some (by kernel_rfl))
 f245:=Tryz.func194.trans (congrArg some (by kernel_rfl))
 f246:=Tryz.func106.trans (congrArg some (by kernel_rfl))
 f247:=Tryz.func212.trans (congrArg some (by kernel_rfl))
 f279:=Tryz.func213.trans (congrArg some (by kernel_rfl))
 f280:=Tryz.func214.trans (congrArg some (by kernel_rfl))
 f281:=Tryz.func215.trans (congrArg some (by kernel_rfl))
 f282:=Tryz.func216.trans (congrArg some (by kernel_rfl))
 f283:=Tryz.func144.trans (congrArg some (by kernel_rfl))
 f284:=Tryz.func145.trans (congrArg some (by kernel_rfl))
 f285:=Tryz.func146.trans (congrArg some (by kernel_rfl))
 f286:=Tryz.func147.trans (congrArg some (by kernel_rfl))
 f287:=Tryz.func218.trans (congrArg some (by kernel_rfl))
 f316:=Tryz.func219.trans (congrArg some (by kernel_rfl))
 f317:=Tryz.func179.trans (congrArg some (by kernel_rfl))
 f318:=Tryz.func181.trans (congrArg some (by kernel_rfl))
 f319:=Tryz.func182.trans (congrArg some (by kernel_rfl))
 f320:=Tryz.func183.trans (congrArg some (by kernel_rfl))
 f321:=Tryz.func221.trans (congrArg some (by kernel_rfl))
 f322:=Tryz.func222.trans (congrArg some (by kernel_rfl))
 f337:=Tryz.func196.trans (congrArg some (by kernel_rfl))
 f338:=Tryz.func197.trans (congrArg some (by kernel_rfl))
 t0:=Tryz.underlying0
 a0:=Tryz.isAgg0
 z0:=Tryz.sizeOf0
 v0:=Tryz.zeroValue0
 t2:=Tryz.underlying2
 a2:=Tryz.isAgg2
 z2:=Tryz.sizeOf2
 v2:=Tryz.zeroValue2
 t3:=Tryz.underlying3
 a3:=Tryz.isAgg3
 z3:=Tryz.sizeOf3
 v3:=Tryz.zeroValue3
 t4:=Tryz.underlying4
 a4:=Tryz.isAgg4
 z4:=Tryz.sizeOf4
 v4:=Tryz.zeroValue4
 t5:=Tryz.underlying5
 a5:=Tryz.isAgg5
 z5:=Tryz.sizeOf5
 v5:=Tryz.zeroValue5
 t9:=Tryz.underlying9
 a9:=Tryz.isAgg9
 z9:=Tryz.sizeOf9
 v9:=Tryz.zeroValue9
 t20:=Tryz.underlying20
 a20:=Tryz.isAgg20
 z20:=Tryz.sizeOf20
 v20:=Tryz.zeroValue20
 t21:=Tryz.underlying21
 a21:=Tryz.isAgg21
 z21:=Tryz.sizeOf21
 v21:=Tryz.zeroValue21
 t37:=Tryz.underlying22
 a37:=Tryz.isAgg22
 z37:=Tryz.sizeOf22
 v37:=Tryz.zeroValue22
 t46:=Tryz.underlying164
 a46:=Tryz.isAgg164
 z46:=Tryz.sizeOf164
 v46:=Tryz.zeroValue164
 t51:=Tryz.underlying201
 a51:=Tryz.isAgg201
 z51:=Tryz.sizeOf201
 v51:=Tryz.zeroValue201
 t53:=Tryz.underlying181
 a53:=Tryz.isAgg181
 z53:=Tryz.sizeOf181
 v53:=Tryz.zeroValue181
 t75:=Tryz.underlying66
 a75:=Tryz.isAgg66
 z75:=Tryz.sizeOf66
 v75:=Tryz.zeroValue66
 t76:=Tryz.underlying67
 a76:=Tryz.isAgg67
 z76:=Tryz.sizeOf67
 v76:=Tryz.zeroValue67
 t85:=Tryz.underlying255
 a85:=Tryz.isAgg255
 z85:=Tryz.sizeOf255
 v85:=Tryz.zeroValue255
 t127:=Tryz.underlying92
 a127:=Tryz.isAgg92
 z127:=Tryz.sizeOf92
 v127:=Tryz.zeroValue92
 t143:=Tryz.underlying268
 a143:=Tryz.isAgg268
 z143:=Tryz.sizeOf268
 v143:=Tryz.zeroValue268
 t145:=Tryz.underlying270
 a145:=Tryz.isAgg270
 z145:=Tryz.sizeOf270
 v145:=Tryz.zeroValue270
 t167:=Tryz.underlying254
 a167:=Tryz.isAgg254
 z167:=Tryz.sizeOf254
 v167:=Tryz.zeroValue254
 t168:=Tryz.underlying257
 a168:=Tryz.isAgg257
 z168:=Tryz.sizeOf257
 v168:=Tryz.zeroValue257
 t171:=Tryz.underlying180
 a171:=Tryz.isAgg180
 z171:=Tryz.sizeOf180
 v171:=Tryz.zeroValue180
 t173:=Tryz.underlying184
 a173:=Tryz.isAgg184
 z173:=Tryz.sizeOf184
 v173:=Tryz.zeroValue184
 t175:=Tryz.underlying262
 a175:=Tryz.isAgg262
 z175:=Tryz.sizeOf262
 v175:=Tryz.zeroValue262
 t210:=Tryz.underlying265
 a210:=Tryz.isAgg265
 z210:=Tryz.sizeOf265
 v210:=Tryz.zeroValue265
 t212:=Tryz.underlying224
 a212:=Tryz.isAgg224
 z212:=Tryz.sizeOf224
 v212:=Tryz.zeroValue224
 t213:=Tryz.underlying225
 a213:=Tryz.isAgg225
 z213:=Tryz.sizeOf225
 t232:=Tryz.underlying260
 a232:=Tryz.isAgg260
 z232:=Tryz.sizeOf260
 v232:=Tryz.zeroValue260
 t233:=Tryz.underlying261
 a233:=Tryz.isAgg261
 z233:=Tryz.sizeOf261
 v233:=Tryz.zeroValue261
 g15:=by kernel_rfl
 g16:=by kernel_rfl
 g17:=by kernel_rfl
 g18:=by kernel_rfl
 g19:=by kernel_rfl
 t80:=Tryz.underlying43
 a80:=Tryz.isAgg43
 z80:=Tryz.sizeOf43
 v80:=Tryz.zeroValue43
 i0:=by kernel_rfl
 i2:=by kernel_rfl
 i3:=by kernel_rfl
 i4:=by kernel_rfl
 i5:=by kernel_rfl
 i9:=by kernel_rfl
 i20:=by kernel_rfl
 i21:=by kernel_rfl
 i37:=by kernel_rfl
 i46:=by kernel_rfl
 i51:=by kernel_rfl
 i53:=by kernel_rfl
 i75:=by kernel_rfl
 i76:=by kernel_rfl
 i80:=by kernel_rfl
 i85:=by kernel_rfl
 i127:=by kernel_rfl
 i143:=by kernel_rfl
 i145:=by kernel_rfl
 i167:=by kernel_rfl
 i168:=by kernel_rfl
 i171:=by kernel_rfl
 i173:=by kernel_rfl
 i175:=by kernel_rfl
 i210:=by kernel_rfl
 i212:=by kernel_rfl
 i232:=by kernel_rfl
 i233:=by kernel_rfl
 m15:=by kernel_rfl
 m16:=by kernel_rfl
 m17:=by kernel_rfl
 m18:=by kernel_rfl
 m19:=by kernel_rfl
 c0:=by kernel_rfl
 c2:=by kernel_rfl
 c3:=by kernel_rfl
 c4:=by kernel_rfl
 c5:=by kernel_rfl
 c9:=by kernel_rfl
 c20:=by kernel_rfl
 c21:=by kernel_rfl
 c37:=by kernel_rfl
 c46:=by kernel_rfl
 c51:=by kernel_rfl
 c53:=by kernel_rfl
 c75:=by kernel_rfl
 c76:=by kernel_rfl
 c80:=by kernel_rfl
 c85:=by kernel_rfl
 c127:=by kernel_rfl
 c143:=by kernel_rfl
 c145:=by kernel_rfl
 c167:=by kernel_rfl
 c168:=by kernel_rfl
 c171:=by kernel_rfl
 c173:=by kernel_rfl
 c175:=by kernel_rfl
 c210:=by kernel_rfl
 c212:=by kernel_rfl
 c213:=by kernel_rfl
 c232:=by kernel_rfl
 c233:=by kernel_rfl }
open Go.RowKit in
theorem Tryz.strconv_Atoi_ok (s:ByteArray) (hmax:s.size≤9223372036854775806) (v:Int) (h:Lib.atoiAll s.data.toList=.ok v) (w:World) :
   Calls Tryz.prog 174 #[.string s] w fun e w'=>e=.returned (.tuple #[.int .i64 v,.nilIface])∧(w'=w ∨ ∃ t,w'=Lib.bytesWorld w 5 t):=Any.strconv_Atoi_ok Tryz.laysC172 s hmax v h w
open Go.RowKit in
theorem Tryz.strconv_Atoi_syntax (s:ByteArray) (hlim:s.size≤281474976710656) (h:Lib.atoiAll s.data.toList=Lib.atoiAll []) (ev:Value) (w:World) (hv:w.cell? ⟨7,0,none⟩=some ev) (hev:ev=.nilIface ∨ ∃ te pe,ev=.iface te pe) :
   Calls Tryz.prog 174 #[.string s] w fun e w'=>∃ N,e=.returned (.tuple #[.int .i64 (0),.iface 257 (.pointer (some ⟨N,0,none⟩))])∧w.heap.size≤N∧w'.heap[N]? = some (.cells #[.string ⟨#[65,116,111,105]⟩,.string s,ev] 265 (0,0))∧Below w.heap.size w w':=Any.strconv_Atoi_syntax Tryz.laysC172 s hlim h ev w hv hev
open Go.RowKit in
theorem Tryz.strconv_Atoi_range (s:ByteArray) (hlim:s.size≤281474976710656) (h:Lib.atoiAll s.data.toList=.range) (ev:Value) (w:World) (hv:w.cell? ⟨8,0,none⟩=some ev) (hev:ev=.nilIface ∨ ∃ te pe,ev=.iface te pe) :
   Calls Tryz.prog 174 #[.string s] w fun e w'=>∃ N,e=.returned (.tuple #[.int .i64 (Lib.atoiSat s.data.toList),.iface 257 (.pointer (some ⟨N,0,none⟩))])∧w.heap.size≤N∧w'.heap[N]? = some (.cells #[.string ⟨#[65,116,111,105]⟩,.string s,ev] 265 (0,0))∧Below w.heap.size w w':=Any.strconv_Atoi_range Tryz.laysC172 s hlim h ev w hv hev
def Tryz.lays146_ren:Go.Shelf.Ren:=⟨fun|146=>21|221=>32|268=>57|138=>58|143=>59|195=>83|197=>84|218=>85|219=>86|260=>119|217=>120|225=>121|224=>122|267=>123|266=>163|314=>164|n=>n,fun|9=>9|31=>40|3=>3|4=>4|0=>0|105=>130|21=>21|5=>5|46=>164|119=>197|139=>200|138=>199|146=>202|51=>201|n=>n,fun|1=>0|3=>2|4=>3|n=>n⟩
theorem Tryz.lays146:Go.Proofs.Lays.n146 Tryz.prog Tryz.lays146_ren:={
 mixed:=by kernel_rfl
 f138:=Tryz.func58.trans (congrArg some (by kernel_rfl))
 f143:=Tryz.func59.trans (congrArg some (by kernel_rfl))
 f146:=Tryz.func21.trans (congrArg some (by kernel_rfl))
 f195:=Tryz.func83.trans (congrArg some (by kernel_rfl))
 f197:=Tryz.func84.trans (congrArg some (by kernel_rfl))
 f217:=Tryz.func120.trans (congrArg some (by kernel_rfl))
 f218:=Tryz.func85.trans (congrArg some (by kernel_rfl))
 f219:=Tryz.func86.trans (congrArg some (by kernel_rfl))
 f221:=Tryz.func32.trans (congrArg some (by kernel_rfl))
 f224:=Tryz.func122.trans (congrArg some (by kernel_rfl))
 f225:=Tryz.func121.trans (congrArg some (by kernel_rfl))
 f260:=Tryz.func119.trans (congrArg some (by kernel_rfl))
 f266:=Tryz.func163.trans (congrArg some (by kernel_rfl))
 f267:=Tryz.func123.trans (congrArg some (by kernel_rfl))
 f268:=Tryz.func57.trans (congrArg some (by kernel_rfl))
 f314:=Tryz.func164.trans (congrArg some (by kernel_rfl))
 t0:=Tryz.underlying0
 a0:=Tryz.isAgg0
 z0:=Tryz.sizeOf0
 v0:=Tryz.zeroValue0
 t3:=Tryz.underlying3
 a3:=Tryz.isAgg3
 z3:=Tryz.sizeOf3
 v3:=Tryz.zeroValue3
 t4:=Tryz.underlying4
 a4:=Tryz.isAgg4
 z4:=Tryz.sizeOf4
 v4:=Tryz.zeroValue4
 t5:=Tryz.underlying5
 a5:=Tryz.isAgg5
 z5:=Tryz.sizeOf5
 v5:=Tryz.zeroValue5
 t9:=Tryz.underlying9
 a9:=Tryz.isAgg9
 z9:=Tryz.sizeOf9
 v9:=Tryz.zeroValue9
 t21:=Tryz.underlying21
 a21:=Tryz.isAgg21
 z21:=Tryz.sizeOf21
 v21:=Tryz.zeroValue21
 t31:=Tryz.underlying40
 a31:=Tryz.isAgg40
 z31:=Tryz.sizeOf40
 v31:=Tryz.zeroValue40
 t46:=Tryz.underlying164
 a46:=Tryz.isAgg164
 z46:=Tryz.sizeOf164
 v46:=Tryz.zeroValue164
 t51:=Tryz.underlying201
 a51:=Tryz.isAgg201
 z51:=Tryz.sizeOf201
 v51:=Tryz.zeroValue201
 t105:=Tryz.underlying130
 a105:=Tryz.isAgg130
 z105:=Tryz.sizeOf130
 v105:=Tryz.zeroValue130
 t119:=Tryz.underlying197
 a119:=Tryz.isAgg197
 z119:=Tryz.sizeOf197
 t138:=Tryz.underlying199
 a138:=Tryz.isAgg199
 z138:=Tryz.sizeOf199
 v138:=Tryz.zeroValue199
 t139:=Tryz.underlying200
 a139:=Tryz.isAgg200
 z139:=Tryz.sizeOf200
 v139:=Tryz.zeroValue200
 t146:=Tryz.underlying202
 a146:=Tryz.isAgg202
 z146:=Tryz.sizeOf202
 v146:=Tryz.zeroValue202
 g1:=by kernel_rfl
 g3:=by kernel_rfl
 g4:=by kernel_rfl }
open Go.RowKit Go.Lib in
theorem Tryz.strings_Split (s sep:ByteArray) (m:Int) (w:World) (hs:s.size < 4294967281) (hm:w.cell? ⟨0,0,none⟩=some (.int .i64 m)) (h1:1≤sep.size) :
   Calls Tryz.prog 21 #[.string s,.string sep] w fun e w' =>
     e=.returned (.slice (some ⟨w.heap.size,0,none⟩) (Lib.countB s sep+1) (Lib.countB s sep+1))∧w'=w.alloc (.cells ((Lib.splitB sep 0 (Lib.countB s sep) s).map Value.string).toArray 9):=Any.strings_Split Tryz.lays146 (by kernel_rfl) s sep m w hs hm h1
def Tryz.lays147_ren:Go.Shelf.Ren:=⟨fun|147=>104|221=>32|268=>57|138=>58|143=>59|195=>83|197=>84|218=>85|219=>86|260=>119|217=>120|225=>121|224=>122|267=>123|266=>163|314=>164|n=>n,fun|9=>9|3=>3|31=>40|4=>4|0=>0|105=>130|21=>21|5=>5|46=>164|119=>197|139=>200|138=>199|146=>202|51=>201|n=>n,fun|1=>0|3=>2|4=>3|n=>n⟩
theorem Tryz.lays147:Go.Proofs.Lays.n147 Tryz.prog Tryz.lays147_ren:={
 mixed:=by kernel_rfl
 f138:=Tryz.func58.trans (congrArg some (by kernel_rfl))
 f143:=Tryz.func59.trans (congrArg some (by kernel_rfl))
 f147:=Tryz.func104.trans (congrArg some (by kernel_rfl))
 f195:=Tryz.func83.trans (congrArg some (by kernel_rfl))
 f197:=Tryz.func84.trans (congrArg some (by kernel_rfl))
 f217:=Tryz.func120.trans (congrArg some (by kernel_rfl))
 f218:=Tryz.func85.trans (congrArg some (by kernel_rfl))
 f219:=Tryz.func86.trans (congrArg some (by kernel_rfl))
 f221:=Tryz.func32.trans (congrArg some (by kernel_rfl))
 f224:=Tryz.func122.trans (congrArg some (by kernel_rfl))
 f225:=Tryz.func121.trans (congrArg some (by kernel_rfl))
 f260:=Tryz.func119.trans (congrArg some (by kernel_rfl))
 f266:=Tryz.func163.trans (congrArg some (by kernel_rfl))
 f267:=Tryz.func123.trans (congrArg some (by kernel_rfl))
 f268:=Tryz.func57.trans (congrArg some (by kernel_rfl))
 f314:=Tryz.func164.trans (congrArg some (by kernel_rfl))
 t0:=Tryz.underlying0
 a0:=Tryz.isAgg0
 z0:=Tryz.sizeOf0
 v0:=Tryz.zeroValue0
 t3:=Tryz.underlying3
 a3:=Tryz.isAgg3
 z3:=Tryz.sizeOf3
 v3:=Tryz.zeroValue3
 t4:=Tryz.underlying4
 a4:=Tryz.isAgg4
 z4:=Tryz.sizeOf4
 v4:=Tryz.zeroValue4
 t5:=Tryz.underlying5
 a5:=Tryz.isAgg5
 z5:=Tryz.sizeOf5
 v5:=Tryz.zeroValue5
 t9:=Tryz.underlying9
 a9:=Tryz.isAgg9
 z9:=Tryz.sizeOf9
 v9:=Tryz.zeroValue9
 t21:=Tryz.underlying21
 a21:=Tryz.isAgg21
 z21:=Tryz.sizeOf21
 v21:=Tryz.zeroValue21
 t31:=Tryz.underlying40
 a31:=Tryz.isAgg40
 z31:=Tryz.sizeOf40
 v31:=Tryz.zeroValue40
 t46:=Tryz.underlying164
 a46:=Tryz.isAgg164
 z46:=Tryz.sizeOf164
 v46:=Tryz.zeroValue164
 t51:=Tryz.underlying201
 a51:=Tryz.isAgg201
 z51:=Tryz.sizeOf201
 v51:=Tryz.zeroValue201
 t105:=Tryz.underlying130
 a105:=Tryz.isAgg130
 z105:=Tryz.sizeOf130
 v105:=Tryz.zeroValue130
 t119:=Tryz.underlying197
 a119:=Tryz.isAgg197
 z119:=Tryz.sizeOf197
 t138:=Tryz.underlying199
 a138:=Tryz.isAgg199
 z138:=Tryz.sizeOf199
 v138:=Tryz.zeroValue199
 t139:=Tryz.underlying200
 a139:=Tryz.isAgg200
 z139:=Tryz.sizeOf200
 v139:=Tryz.zeroValue200
 t146:=Tryz.underlying202
 a146:=Tryz.isAgg202
 z146:=Tryz.sizeOf202
 v146:=Tryz.zeroValue202
 g1:=by kernel_rfl
 g3:=by kernel_rfl
 g4:=by kernel_rfl }
open Go.RowKit Go.Lib in
theorem Tryz.strings_SplitN (s sep:ByteArray) (n:Nat) (m:Int) (w:World) (hs:s.size < 4294967281) (hm:w.cell? ⟨0,0,none⟩=some (.int .i64 m)) (h1:1≤sep.size) (hn:1≤n) (hn63:n≤9223372036854775807) :
   Calls Tryz.prog 104 #[.string s,.string sep,.int .i64 n] w fun e w' =>
     e=.returned (.slice (some ⟨w.heap.size,0,none⟩) (Lib.splitB sep 0 (min n (s.size+1) - 1) s).length (min n (s.size+1)))∧w'=w.alloc (.cells (Lib.cellsOf (Lib.splitB sep 0 (min n (s.size+1) - 1) s) (min n (s.size+1))) 9):=Any.strings_SplitN Tryz.lays147 (by kernel_rfl) s sep n m w hs hm h1 hn hn63
end Go.Proofs
namespace Go.Hw
open Go.Proofs Go.RowKit Go.Extern.Stop Go.Stop Go.Extern
theorem isTypeOf (v:Value) (w:World):(Extern.ReflectliteType.typeOf #[.iface 268 v]).run Tryz.prog w=.ok (.iface 243 (.agg #[.pointer (some ⟨9,268,none⟩)])) w:=by kernel_rfl
def isFn:Array Value→Sem Value:=Extern.ReflectliteType.method fun t=>do Extern.Rtype.noPackHeld "Comparable" t;pure (.bool (← typeInfo t).comparable)
theorem isComparable (w:World):(isFn #[.agg #[.pointer (some ⟨9,268,none⟩)]]).run Tryz.prog w=.ok (.bool true) w:=by kernel_rfl
theorem isMethodComparable (v:Value) (w:World):(Go.method 401 243 v "Comparable").run Tryz.prog w=.ok (245,v) w:=by kernel_rfl
theorem isComp:(Tryz.prog.info? 268).map (·.comparable)=some true:=by kernel_rfl
theorem isSize:(Tryz.prog.info? 270).map (·.size)=some 1:=by kernel_rfl
theorem is_same (a:Addr) (w:World) :
   Calls Tryz.prog 143 #[.iface 268 (.pointer (some a)),.iface 268 (.pointer (some a))] w fun e w'=>e=.returned (.bool true)∧w'=w:=by
 obtain ⟨i,hi,hcmp⟩:=Option.map_eq_some_iff.1 isComp
 obtain ⟨j,hj,hjs⟩:=Option.map_eq_some_iff.1 isSize
 have h8:=@run_callFunc_extern Tryz.prog 177 _ Extern.ReflectliteType.typeOf Tryz.func177 (by kernel_rfl) (by kernel_rfl) (by kernel_rfl) (by kernel_rfl)
 have h32:=@run_callFunc_extern Tryz.prog 245 _ isFn Tryz.func245 (by kernel_rfl) (by kernel_rfl) (by kernel_rfl) (by kernel_rfl)
 have tT:=isTypeOf
 have cT:=isComparable
 have mR:=isMethodComparable
 have heq:=run_eql_iface_ptr_same (P:=Tryz.prog) w a Tryz.underlying66 Tryz.underlying268 hi hcmp hj
 go_enter Tryz.func143,Tryz.ntmps143
 go_wp2
 refine wp_loop_rounds 1 ?_
 rw [rounds_succ]
 go_wp2
 go_ret
 exact ⟨rfl,rfl⟩
theorem is_nil (b:Addr) (w:World) :
   Calls Tryz.prog 143 #[.nilIface,.iface 268 (.pointer (some b))] w fun e w'=>e=.returned (.bool false)∧w'=w:=by
 have hn:=run_eql_iface_nil_left (P:=Tryz.prog) w 268 (.pointer (some b)) Tryz.underlying66
 go_enter Tryz.func143,Tryz.ntmps143
 go_wp2
 go_ret
 exact ⟨rfl,rfl⟩
end Go.Hw
namespace Go.Hw
open Go.Proofs
theorem glob_cell {w:World} {A:Nat→Prop} {ρ:Rho} {H:Heap} (h:HeapAt w A ρ H) {k g:Nat} {v:Value} (hm:(k,AObj.glob g v) ∈ H):w.cell? ⟨g,0,none⟩=some v:=by
 obtain ⟨b,m,_,⟨_,h2,_⟩,_⟩:=h.objs _ hm trivial
 exact h2
theorem vs1 {w:World} {A:Nat→Prop} {ρ:Rho} {x:Value} {vs:Array Value} (h:All2 (A1.At w A ρ) [.c (.t (.v x))] vs.toList):vs=#[x]:=by
 obtain ⟨vs⟩:=vs
 match vs,h with
 | [_],⟨⟨rfl,_⟩,_⟩=>rfl
theorem vs2 {w:World} {A:Nat→Prop} {ρ:Rho} {x y:Value} {vs:Array Value} (h:All2 (A1.At w A ρ) [.c (.t (.v x)),.c (.t (.v y))] vs.toList):vs=#[x,y]:=by
 obtain ⟨vs⟩:=vs
 match vs,h with
 | [_,_],⟨⟨rfl,_⟩,⟨rfl,_⟩,_⟩=>rfl
theorem vs3 {w:World} {A:Nat→Prop} {ρ:Rho} {x y z:Value} {vs:Array Value} (h:All2 (A1.At w A ρ) [.c (.t (.v x)),.c (.t (.v y)),.c (.t (.v z))] vs.toList):vs=#[x,y,z]:=by
 obtain ⟨vs⟩:=vs
 match vs,h with
 | [_,_,_],⟨⟨rfl,_⟩,⟨rfl,_⟩,⟨rfl,_⟩,_⟩=>rfl
theorem map_data {L:List ByteArray} {l:List Str} (h:L.map (·.data.toList)=l):L=l.map fun x=>ByteArray.mk (List.toArray x):=by
 subst h
 rw [List.map_map]
 have:∀ x:ByteArray,(((fun x=>ByteArray.mk (List.toArray x)) ∘ fun x=>x.data.toList) x)=x:=by intro x;simp
 rw [List.map_congr_left (fun x _=>this x)];simp
theorem Split_ok (s:Str) (c:UInt8) (m:Int) (hs:s.length≤1000000) :
   Call Tryz.prog 21 [U s,U [c]] [(0,.glob 0 (.int .i64 m))] 1 (.o (.c (.sl 1 1 0 (cut c s).length))) [(1,rU (cut c s)),(0,.glob 0 (.int .i64 m))] 2:=by
 refine Call.row ⟨_,Tryz.func21,by kernel_rfl,by kernel_rfl⟩ (by have:=cut_len c s;intro h;rw [h] at this;simp at this) (fun w A ρ vs hvs hH hA=>?_)
 rw [vs2 hvs]
 refine (Go.Proofs.Tryz.strings_Split _ _ m w (by simp [ByteArray.size];omega) (glob_cell hH (List.mem_cons_self)) (by simp [ByteArray.size])).mono ?_
 rintro e w' ⟨rfl,rfl⟩
 have h1:=Lib.splitB_data (ByteArray.mk [c].toArray) 0 (Lib.countB (ByteArray.mk s.toArray) (ByteArray.mk [c].toArray)) (ByteArray.mk s.toArray)
 have h2:Lib.countB (ByteArray.mk s.toArray) (ByteArray.mk [c].toArray)=Lib.count s [c]:=rfl
 have h3:Lib.splitK (ByteArray.mk [c].toArray).data.toList 0 (Lib.count s [c]) (ByteArray.mk s.toArray).data.toList=cut c s:=by simpa using split_cut c s
 rw [h2,h3] at h1
 have h4:=map_data h1
 have h5:Lib.count s [c]+1=(cut c s).length:=by rw [cut_eq];exact count_cutR c (s.length+1) s (by omega)
 have hcl:=cut_len c s
 rw [h2]
 refine ⟨_,_,_,by rw [h5],rfl,⟨by omega,by omega⟩,?_,fun i hi=>?_⟩
 · rw [h4];simp
 · rw [h4];simp [List.getD,hi]
theorem SplitN_ok (s:Str) (m:Int) (hs:s.length≤1000000) :
   Call Tryz.prog 104 [U s,U [32],I 4] [(0,.glob 0 (.int .i64 m))] 1 (.o (.c (.sl 1 1 0 (split4 s).length))) [(1,rU (split4 s)),(0,.glob 0 (.int .i64 m))] 2:=by
 have hcl:=cut_len 32 s
 have hne:split4 s ≠ []:=by
   unfold split4;split
   · intro h;rw [h] at hcl;simp at hcl
   · simp
 refine Call.row ⟨_,Tryz.func104,by kernel_rfl,by kernel_rfl⟩ hne (fun w A ρ vs hvs hH hA=>?_)
 rw [vs3 hvs]
 refine (Go.Proofs.Tryz.strings_SplitN _ _ 4 m w (by simp [ByteArray.size];omega) (glob_cell hH (List.mem_cons_self)) (by simp [ByteArray.size]) (by omega) (by omega)).mono ?_
 rintro e w' ⟨rfl,rfl⟩
 have h0:(ByteArray.mk s.toArray).size=s.length:=by simp [ByteArray.size]
 rw [h0]
 have h1:=Lib.splitB_data (ByteArray.mk [32].toArray) 0 (min 4 (s.length+1) - 1) (ByteArray.mk s.toArray)
 have h3:Lib.splitK (ByteArray.mk [32].toArray).data.toList 0 (min 4 (s.length+1) - 1) (ByteArray.mk s.toArray).data.toList=split4 s:=by simpa using splitN_cut s
 rw [h3] at h1
 have h4:=map_data h1
 have h6:(split4 s).length≤min 4 (s.length+1):=by
   have:=Lib.splitB_length_le (ByteArray.mk [32].toArray) 0 (min 4 (s.length+1) - 1) (ByteArray.mk s.toArray)
   rw [h4] at this;simp at this;omega
 have h7:(Lib.cellsOf (Lib.splitB (ByteArray.mk [32].toArray) 0 (min 4 (s.length+1) - 1) (ByteArray.mk s.toArray)) (min 4 (s.length+1))).size=min 4 (s.length+1):=Lib.cellsOf_size (by rw [h4];simpa using h6)
 refine ⟨_,_,_,by rw [h4];simp,rfl,⟨h6,by omega⟩,by rw [h7];exact Nat.le_refl _,fun i hi=>?_⟩
 rw [h4]
 unfold Lib.cellsOf
 simp [List.getElem?_append,hi,List.getD]
theorem Itoa_ok (n:Int) (h0:0≤n) (h1:n < 100):Call Tryz.prog 40 [I n] [] 0 (.o (U (decB n))) [] 0:=by
 refine CallX.keep ⟨_,Tryz.func40,by kernel_rfl,by kernel_rfl⟩ (fun w A ρ vs hvs hH hA=>?_)
 rw [vs1 hvs]
 have e:n=((n.toNat:Nat):Int):=by omega
 rw [e]
 refine (Go.Proofs.Tryz.strconv_Itoa_small n.toNat (by omega) w).mono ?_
 rintro e' w' ⟨rfl,rfl⟩
 have hd:=(decT_at n h0 h1).2.2.2.1
 refine ⟨(),_,trivial,rfl,fun A=>?_,RowKit.Below.refl _ _⟩
 rw [← e,hd]
 exact ⟨rfl,rfl⟩
def errC (s:Str) (x:Nat):Cell:=if atoiOk s then .t (.v .nilIface) else .t (.v (.iface 257 (.pointer (some ⟨x,0,none⟩))))
theorem Atoi_ok (s:Str) (e7 e8:Value) (hs:s.length≤1000000) (h7:∃ te pe,e7=.iface te pe) (h8:∃ te pe,e8=.iface te pe) :
   CallX (α:=Nat × Int) Tryz.prog 174 [U s] [(0,.glob 7 e7),(1,.glob 8 e8)] 2 (fun x=>atoiOk s=true→x.2=atoiV s) (fun x=>.tup [I x.2,.c (errC s x.1)]) (fun _=>[(0,.glob 7 e7),(1,.glob 8 e8)]) 2:=by
 refine CallX.keep ⟨_,Tryz.func174,by kernel_rfl,by kernel_rfl⟩ (fun w A ρ vs hvs hH hA=>?_)
 rw [vs1 hvs]
 have hz:(ByteArray.mk s.toArray).size=s.length:=by simp [ByteArray.size]
 have hd:(ByteArray.mk s.toArray).data.toList=s:=by simp
 cases ho:Lib.atoiAll s
 · rename_i v
   refine (Go.Proofs.Tryz.strconv_Atoi_ok _ (by rw [hz];omega) v (by rw [hd];exact ho) w).mono ?_
   rintro e w' ⟨rfl,hw⟩
   have hk:atoiOk s=true:=by unfold atoiOk;rw [ho]
   have hv:atoiV s=v:=by unfold atoiV;rw [ho]
   refine ⟨(0,v),_,fun _=>hv.symm,rfl,fun A=>⟨_,rfl,⟨rfl,rfl⟩,?_,trivial⟩,?_⟩
   · unfold errC;rw [if_pos hk];exact ⟨rfl,rfl⟩
   · rcases hw with rfl|⟨t,rfl⟩
     · exact RowKit.Below.refl _ _
     · exact ⟨rfl,rfl,rfl,by rw [Lib.bytesWorld_size];omega,fun b hb=>Lib.bytesWorld_at_old w 5 t b hb⟩
 · refine (Go.Proofs.Tryz.strconv_Atoi_syntax _ (by rw [hz];omega) (by rw [hd];exact ho) e7 w (glob_cell hH (List.mem_cons_self)) (.inr h7)).mono ?_
   rintro e w' ⟨N,rfl,_,_,hb⟩
   have hk:¬ atoiOk s=true:=by unfold atoiOk;rw [ho];simp
   refine ⟨(N,0),_,fun h=>absurd h hk,rfl,fun A=>⟨_,rfl,⟨rfl,rfl⟩,?_,trivial⟩,hb⟩
   unfold errC;rw [if_neg hk];exact ⟨rfl,rfl⟩
 · refine (Go.Proofs.Tryz.strconv_Atoi_range _ (by rw [hz];omega) (by rw [hd];exact ho) e8 w (glob_cell hH (List.mem_cons_of_mem _ List.mem_cons_self)) (.inr h8)).mono ?_
   rintro e w' ⟨N,rfl,_,_,hb⟩
   have hk:¬ atoiOk s=true:=by unfold atoiOk;rw [ho];simp
   refine ⟨(N,_),_,fun h=>absurd h hk,rfl,fun A=>⟨_,rfl,⟨rfl,rfl⟩,?_,trivial⟩,hb⟩
   unfold errC;rw [if_neg hk];exact ⟨rfl,rfl⟩
theorem Is_same (a:Addr):Call Tryz.prog 143 [.c (.t (.v (.iface 268 (.pointer (some a))))),.c (.t (.v (.iface 268 (.pointer (some a)))))] [] 0 (.o (BB true)) [] 0:=by
 refine CallX.keep ⟨_,Tryz.func143,by kernel_rfl,by kernel_rfl⟩ (fun w A ρ vs hvs hH hA=>?_)
 rw [vs2 hvs]
 refine (is_same a w).mono ?_
 rintro e w' ⟨rfl,rfl⟩
 exact ⟨(),_,trivial,rfl,fun A=>⟨rfl,rfl⟩,RowKit.Below.refl _ _⟩
theorem Is_nil (a:Addr):Call Tryz.prog 143 [.c (.t (.v .nilIface)),.c (.t (.v (.iface 268 (.pointer (some a)))))] [] 0 (.o (BB false)) [] 0:=by
 refine CallX.keep ⟨_,Tryz.func143,by kernel_rfl,by kernel_rfl⟩ (fun w A ρ vs hvs hH hA=>?_)
 rw [vs2 hvs]
 refine (is_nil a w).mono ?_
 rintro e w' ⟨rfl,rfl⟩
 exact ⟨(),_,trivial,rfl,fun A=>⟨rfl,rfl⟩,RowKit.Below.refl _ _⟩
theorem decB_len2 (n:Int):(decB n).length≤2:=by unfold decB;split<;>simp
theorem fields_ok (p:Packet):Call Tryz.prog 195 [p.av] [] 0 (.o (.g [ci p.seq,ci p.kind,ci p.src,ci p.dst,ci p.sum,ci p.till,ci p.ver])) [] 0:=by
 refine vO tok Tryz.func195 rfl rfl Tryz.ntmps195 Tryz.results195 rfl (by decide) (fun cx hnt hk0=>?_)
 repeat' (first|refine vS fun K hK=>?_|refine hK _ ?_;clear hK K|((first|refine vR tok (by rw [hnt];rfl) ?_|refine vT ?_|(refine vF [] ?_))<;>(try simp only [go_sem,qa,qb,qc,qd,qe,qf,qg,qh,qi,qj,qk,ql,qm,qn,qo,qp,qq,qr,qs,reduceIte,reduceCtorEq])))
theorem packetOf_ok (p:Packet):Call Tryz.prog 175 [.g [ci p.seq,ci p.kind,ci p.src,ci p.dst,ci p.sum,ci p.till,ci p.ver]] [] 0 (.o p.av) [] 0:=by
 refine vO tok Tryz.func175 rfl rfl Tryz.ntmps175 Tryz.results175 rfl (by decide) (fun cx hnt hk0=>?_)
 repeat' (first|refine vS fun K hK=>?_|refine hK _ ?_;clear hK K|((first|refine vR tok (by rw [hnt];rfl) ?_|refine vT ?_|(refine vF [] ?_))<;>(try simp only [go_sem,qa,qb,qc,qd,qe,qf,qg,qh,qi,qj,qk,ql,qm,qn,qo,qp,qq,qr,qs,reduceIte,reduceCtorEq]))|refine aL ?_ fun hp=>?_|clear hK K)
 all_goals omega
theorem iPacketText_no (p:Packet) (h:¬ p.ok=true):Call Tryz.prog 176 [p.av] [] 0 (.o (U p.textV)) [] 0:=by
 have e:p.textV=[]:=by unfold Packet.textV;rw [if_neg h]
 rw [e]
 refine vO tok Tryz.func176 rfl rfl Tryz.ntmps176 Tryz.results176 rfl (by decide) (fun cx hnt hk0=>?_)
 repeat' (first|refine vS fun K hK=>?_|refine hK _ ?_;clear hK K|refine hX ?_;clear hX hY X Y|((first|refine vR tok (by rw [hnt];rfl) ?_|refine vC fun X Y hX hY=>?_|refine vT ?_|refine vF [] ?_|(refine runS_c [] (iPacketOk_ok p) rfl ?_ ?_ ?_))<;>(try simp only [go_sem,qa,qb,qc,qd,qe,qf,qg,qh,qi,qj,qk,ql,qm,qn,qo,qp,qq,qr,qs,reduceIte,reduceCtorEq,h])))
theorem iPacketText_yes (p:Packet) (h:p.ok=true):Call Tryz.prog 176 [p.av] [] 0 (.o (U p.textV)) [] 0:=by
 have e:p.textV=p.text:=by unfold Packet.textV;rw [if_pos h]
 rw [e]
 obtain ⟨n1,n2,n3,n4,n5,n6,n7⟩:=packet_in p h
 have dseq:=decB_len2 p.seq
 have qseq:=(decT_at p.seq n1.1 n1.2).2.2.2.2
 have iseq:=Itoa_ok p.seq n1.1 n1.2
 have dkind:=decB_len2 p.kind
 have qkind:=(decT_at p.kind n2.1 n2.2).2.2.2.2
 have ikind:=Itoa_ok p.kind n2.1 n2.2
 have dsrc:=decB_len2 p.src
 have qsrc:=(decT_at p.src n3.1 n3.2).2.2.2.2
 have isrc:=Itoa_ok p.src n3.1 n3.2
 have ddst:=decB_len2 p.dst
 have qdst:=(decT_at p.dst n4.1 n4.2).2.2.2.2
 have idst:=Itoa_ok p.dst n4.1 n4.2
 have dsum:=decB_len2 p.sum
 have qsum:=(decT_at p.sum n5.1 n5.2).2.2.2.2
 have isum:=Itoa_ok p.sum n5.1 n5.2
 have dtill:=decB_len2 p.till
 have qtill:=(decT_at p.till n6.1 n6.2).2.2.2.2
 have itill:=Itoa_ok p.till n6.1 n6.2
 have dver:=decB_len2 p.ver
 have qver:=(decT_at p.ver n7.1 n7.2).2.2.2.2
 have iver:=Itoa_ok p.ver n7.1 n7.2
 have w0:∀ z,CallX (α:=Nat) Tryz.prog 34 [.c (.ptr 0 0 0 0),U (decB p.seq)] [(0,.tbx 37 [bldC 0 0 false,.sl 1 1 0 0]),(1,bufO [] z)] 2 (fun _=>True) (fun _=>.tup [I (decB p.seq).length,.c (.t (.v .nilIface))]) (fun z'=>[(0,.tbx 37 [bldC 0 0 true,.sl 2 1 0 (decB p.seq).length]),(2,bufO (decB p.seq) z')]) 3:=fun z=>WriteString_ok false [] (decB p.seq) z qseq (by simp;omega)
 have w1:=fun z=>WriteByte_ok true (decB p.seq) 32 z (by simp;omega)
 have w2:=fun z=>WriteString_ok true (decB p.seq++[32]) (decB p.kind) z (by simpa using qkind) (by simp;omega)
 have w3:=fun z=>WriteByte_ok true (decB p.seq++[32]++decB p.kind) 32 z (by simp;omega)
 have w4:=fun z=>WriteString_ok true (decB p.seq++[32]++decB p.kind++[32]) (decB p.src) z (by simpa using qsrc) (by simp;omega)
 have w5:=fun z=>WriteByte_ok true (decB p.seq++[32]++decB p.kind++[32]++decB p.src) 32 z (by simp;omega)
 have w6:=fun z=>WriteString_ok true (decB p.seq++[32]++decB p.kind++[32]++decB p.src++[32]) (decB p.dst) z (by simpa using qdst) (by simp;omega)
 have w7:=fun z=>WriteByte_ok true (decB p.seq++[32]++decB p.kind++[32]++decB p.src++[32]++decB p.dst) 32 z (by simp;omega)
 have w8:=fun z=>WriteString_ok true (decB p.seq++[32]++decB p.kind++[32]++decB p.src++[32]++decB p.dst++[32]) (decB p.sum) z (by simpa using qsum) (by simp;omega)
 have w9:=fun z=>WriteByte_ok true (decB p.seq++[32]++decB p.kind++[32]++decB p.src++[32]++decB p.dst++[32]++decB p.sum) 32 z (by simp;omega)
 have w10:=fun z=>WriteString_ok true (decB p.seq++[32]++decB p.kind++[32]++decB p.src++[32]++decB p.dst++[32]++decB p.sum++[32]) (decB p.till) z (by simpa using qtill) (by simp;omega)
 have w11:=fun z=>WriteByte_ok true (decB p.seq++[32]++decB p.kind++[32]++decB p.src++[32]++decB p.dst++[32]++decB p.sum++[32]++decB p.till) 32 z (by simp;omega)
 have w12:=fun z=>WriteString_ok true (decB p.seq++[32]++decB p.kind++[32]++decB p.src++[32]++decB p.dst++[32]++decB p.sum++[32]++decB p.till++[32]) (decB p.ver) z (by simpa using qver) (by simp;omega)
 have cT:=fun z=>String_call (T:=37) (o:=0) (r:=1) (k:=2) (z:=z) (cl:=[bldC 0 0 true,.sl 1 1 0 p.text.length]) (l:=p.text) (text_ne p) (by decide) rfl
 refine vO tok Tryz.func176 rfl rfl Tryz.ntmps176 Tryz.results176 rfl (by decide) (fun cx hnt hk0=>?_)
 have hR:=fun (ops:List Oper) (Q:Exit→St→Prop) (s:St) (hd:dstOk cx.nt ops=true) h=>AWp.regN (P:=Tryz.prog) (c:=cx) (Q:=Q) (s:=s) (ops:=ops) (id:=3) 0 tok hd h
 repeat' (first|refine hR _ _ _ (dst_of hnt rfl) ?_|refine vS fun K hK=>?_|refine hK _ ?_;clear hK K|refine hY ?_;clear hX hY X Y|((first|refine vR tok (by rw [hnt];rfl) ?_|refine vC fun X Y hX hY=>?_|refine vK ?_|(refine runS_c [] (iPacketOk_ok p) rfl ?_ ?_ ?_))<;>(try simp only [go_sem,qa,qb,qc,qd,qe,qf,qg,qh,qi,qj,qk,ql,qm,qn,qo,qp,qq,qr,qs,reduceIte,reduceCtorEq,h])))
 simp only [go_sem,qa,qb,qc,qd,qe,qf,qg,qh,qi,qj,qk,ql,qm,qn,qo,qp,qq,qr,qs,reduceIte,reduceCtorEq,List.take_zero,List.length_nil]
 refine AWpI.tbxA tok (dst_of hnt rfl) rfl rfl rfl (tx:=_) rfl rfl ?_
 refine AWpI.done (by decide) ?_
 simp only [go_sem,qa,qb,qc,qd,qe,qf,qg,qh,qi,qj,qk,ql,qm,qn,qo,qp,qq,qr,qs,reduceIte,reduceCtorEq]
 refine hK _ ?_;clear hK K
 refine AWp.le (s':=⟨[(1,.o (.c (.ptr 0 0 0 0))),(3,.o (.c (.ptr 1 0 0 0)))],[(0,p.box),(1,.tbx 37 [bldC 0 1 false,.sl 2 1 0 0]),(2,bufO [] 0)],3⟩) ?_ ?_
 · refine vL hk0 [] ?_;simp only [go_sem,qa,qb,qc,qd,qe,qf,qg,qh,qi,qj,qk,ql,qm,qn,qo,qp,qq,qr,qs,reduceIte,reduceCtorEq,bldC,cond_false]
   all_goals first|rfl|trivial|simp
 repeat' (first|refine vS fun K hK=>?_|refine hK _ ?_;clear hK K|refine vB ?_|((first|refine vR tok (by rw [hnt];rfl) ?_|(refine runS_c [] (fields_ok p) rfl ?_ ?_ ?_))<;>(try simp only [go_sem,qa,qb,qc,qd,qe,qf,qg,qh,qi,qj,qk,ql,qm,qn,qo,qp,qq,qr,qs,reduceIte,reduceCtorEq])))
 refine AWp.loopN 8 fun L hL=>?_
 repeat' (first|refine vS fun K hK=>?_|refine hK _ ?_;clear hK K|refine hX ?_;clear hX hY X Y|refine hY ?_;clear hX hY X Y|refine vB ?_|refine hL _ _ ?_|((first|refine vR tok (by rw [hnt];rfl) ?_|refine vC fun X Y hX hY=>?_|refine vK ?_|(refine runS_at [1,2] ((w0 0)) rfl ?_ ?_ (fun z0 y0=>?_))|(refine runS_c [] (iseq) rfl ?_ ?_ ?_))<;>(try simp only [go_sem,qa,qb,qc,qd,qe,qf,qg,qh,qi,qj,qk,ql,qm,qn,qo,qp,qq,qr,qs,reduceIte,reduceCtorEq]))|refine Fits.of ?_ ?_|refine aL ?_ fun hp=>?_|refine And.intro ?_ ?_|clear hK K|clear hL L)
 all_goals try omega
 repeat' (first|refine hK _ ?_;clear hK K|((first|refine vR tok (by rw [hnt];rfl) ?_|(refine runS_at [1,3] ((w1 z0)) rfl ?_ ?_ (fun z1 y1=>?_))|(refine runS_c [] (ikind) rfl ?_ ?_ ?_))<;>(try simp only [go_sem,qa,qb,qc,qd,qe,qf,qg,qh,qi,qj,qk,ql,qm,qn,qo,qp,qq,qr,qs,reduceIte,reduceCtorEq])))
 all_goals try omega
 repeat' (first|refine vS fun K hK=>?_|refine hK _ ?_;clear hK K|refine hX ?_;clear hX hY X Y|refine vB ?_|refine hL _ _ ?_|((first|refine vR tok (by rw [hnt];rfl) ?_|refine vC fun X Y hX hY=>?_|refine vK ?_|(refine runS_at [1,4] ((w2 z1)) rfl ?_ ?_ (fun z2 y2=>?_)))<;>(try simp only [go_sem,qa,qb,qc,qd,qe,qf,qg,qh,qi,qj,qk,ql,qm,qn,qo,qp,qq,qr,qs,reduceIte,reduceCtorEq]))|refine Fits.of ?_ ?_|refine aL ?_ fun hp=>?_|refine And.intro ?_ ?_|clear hK K|clear hL L)
 all_goals try omega
 repeat' (first|refine hK _ ?_;clear hK K|((first|refine vR tok (by rw [hnt];rfl) ?_|(refine runS_at [1,5] ((w3 z2)) rfl ?_ ?_ (fun z3 y3=>?_))|(refine runS_c [] (isrc) rfl ?_ ?_ ?_))<;>(try simp only [go_sem,qa,qb,qc,qd,qe,qf,qg,qh,qi,qj,qk,ql,qm,qn,qo,qp,qq,qr,qs,reduceIte,reduceCtorEq])))
 all_goals try omega
 repeat' (first|refine vS fun K hK=>?_|refine hK _ ?_;clear hK K|refine hX ?_;clear hX hY X Y|refine vB ?_|refine hL _ _ ?_|((first|refine vR tok (by rw [hnt];rfl) ?_|refine vC fun X Y hX hY=>?_|refine vK ?_|(refine runS_at [1,6] ((w4 z3)) rfl ?_ ?_ (fun z4 y4=>?_)))<;>(try simp only [go_sem,qa,qb,qc,qd,qe,qf,qg,qh,qi,qj,qk,ql,qm,qn,qo,qp,qq,qr,qs,reduceIte,reduceCtorEq]))|refine Fits.of ?_ ?_|refine aL ?_ fun hp=>?_|refine And.intro ?_ ?_|clear hK K|clear hL L)
 all_goals try omega
 repeat' (first|refine hK _ ?_;clear hK K|((first|refine vR tok (by rw [hnt];rfl) ?_|(refine runS_at [1,7] ((w5 z4)) rfl ?_ ?_ (fun z5 y5=>?_))|(refine runS_c [] (idst) rfl ?_ ?_ ?_))<;>(try simp only [go_sem,qa,qb,qc,qd,qe,qf,qg,qh,qi,qj,qk,ql,qm,qn,qo,qp,qq,qr,qs,reduceIte,reduceCtorEq])))
 all_goals try omega
 repeat' (first|refine vS fun K hK=>?_|refine hK _ ?_;clear hK K|refine hX ?_;clear hX hY X Y|refine vB ?_|refine hL _ _ ?_|((first|refine vR tok (by rw [hnt];rfl) ?_|refine vC fun X Y hX hY=>?_|refine vK ?_|(refine runS_at [1,8] ((w6 z5)) rfl ?_ ?_ (fun z6 y6=>?_)))<;>(try simp only [go_sem,qa,qb,qc,qd,qe,qf,qg,qh,qi,qj,qk,ql,qm,qn,qo,qp,qq,qr,qs,reduceIte,reduceCtorEq]))|refine Fits.of ?_ ?_|refine aL ?_ fun hp=>?_|refine And.intro ?_ ?_|clear hK K|clear hL L)
 all_goals try omega
 repeat' (first|refine hK _ ?_;clear hK K|((first|refine vR tok (by rw [hnt];rfl) ?_|(refine runS_at [1,9] ((w7 z6)) rfl ?_ ?_ (fun z7 y7=>?_))|(refine runS_c [] (isum) rfl ?_ ?_ ?_))<;>(try simp only [go_sem,qa,qb,qc,qd,qe,qf,qg,qh,qi,qj,qk,ql,qm,qn,qo,qp,qq,qr,qs,reduceIte,reduceCtorEq])))
 all_goals try omega
 repeat' (first|refine vS fun K hK=>?_|refine hK _ ?_;clear hK K|refine hX ?_;clear hX hY X Y|refine vB ?_|refine hL _ _ ?_|((first|refine vR tok (by rw [hnt];rfl) ?_|refine vC fun X Y hX hY=>?_|refine vK ?_|(refine runS_at [1,10] ((w8 z7)) rfl ?_ ?_ (fun z8 y8=>?_)))<;>(try simp only [go_sem,qa,qb,qc,qd,qe,qf,qg,qh,qi,qj,qk,ql,qm,qn,qo,qp,qq,qr,qs,reduceIte,reduceCtorEq]))|refine Fits.of ?_ ?_|refine aL ?_ fun hp=>?_|refine And.intro ?_ ?_|clear hK K|clear hL L)
 all_goals try omega
 repeat' (first|refine hK _ ?_;clear hK K|((first|refine vR tok (by rw [hnt];rfl) ?_|(refine runS_at [1,11] ((w9 z8)) rfl ?_ ?_ (fun z9 y9=>?_))|(refine runS_c [] (itill) rfl ?_ ?_ ?_))<;>(try simp only [go_sem,qa,qb,qc,qd,qe,qf,qg,qh,qi,qj,qk,ql,qm,qn,qo,qp,qq,qr,qs,reduceIte,reduceCtorEq])))
 all_goals try omega
 repeat' (first|refine vS fun K hK=>?_|refine hK _ ?_;clear hK K|refine hX ?_;clear hX hY X Y|refine vB ?_|refine hL _ _ ?_|((first|refine vR tok (by rw [hnt];rfl) ?_|refine vC fun X Y hX hY=>?_|refine vK ?_|(refine runS_at [1,12] ((w10 z9)) rfl ?_ ?_ (fun z10 y10=>?_)))<;>(try simp only [go_sem,qa,qb,qc,qd,qe,qf,qg,qh,qi,qj,qk,ql,qm,qn,qo,qp,qq,qr,qs,reduceIte,reduceCtorEq]))|refine Fits.of ?_ ?_|refine aL ?_ fun hp=>?_|refine And.intro ?_ ?_|clear hK K|clear hL L)
 all_goals try omega
 repeat' (first|refine hK _ ?_;clear hK K|((first|refine vR tok (by rw [hnt];rfl) ?_|(refine runS_at [1,13] ((w11 z10)) rfl ?_ ?_ (fun z11 y11=>?_))|(refine runS_c [] (iver) rfl ?_ ?_ ?_))<;>(try simp only [go_sem,qa,qb,qc,qd,qe,qf,qg,qh,qi,qj,qk,ql,qm,qn,qo,qp,qq,qr,qs,reduceIte,reduceCtorEq])))
 all_goals try omega
 repeat' (first|refine vS fun K hK=>?_|refine hK _ ?_;clear hK K|refine hY ?_;clear hX hY X Y|refine hL _ _ ?_|((first|refine vR tok (by rw [hnt];rfl) ?_|refine vC fun X Y hX hY=>?_|refine vE ?_|(refine runS_at [1,14] ((w12 z11)) rfl ?_ ?_ (fun z12 y12=>?_)))<;>(try simp only [go_sem,qa,qb,qc,qd,qe,qf,qg,qh,qi,qj,qk,ql,qm,qn,qo,qp,qq,qr,qs,reduceIte,reduceCtorEq]))|refine Fits.of ?_ ?_|refine And.intro ?_ ?_|clear hK K|clear hL L)
 all_goals try omega
 repeat' (first|refine hK _ ?_;clear hK K|((first|refine vT ?_|refine vF [] ?_|(refine runS_c [1,15] ((cT z12)) rfl ?_ ?_ ?_))<;>(try simp only [go_sem,qa,qb,qc,qd,qe,qf,qg,qh,qi,qj,qk,ql,qm,qn,qo,qp,qq,qr,qs,reduceIte,reduceCtorEq,Packet.text])))
 all_goals first|omega
end Go.Hw
