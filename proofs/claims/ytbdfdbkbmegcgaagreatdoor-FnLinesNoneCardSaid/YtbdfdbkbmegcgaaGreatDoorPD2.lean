/- What is proved here: parts of the walk of the law and of its plain side; no condition but those that each theorem states. -/
import Derived.Test.YtbdfdbkbmegcgaaGreatDoorPI3
set_option linter.all false
set_option maxRecDepth 100000
set_option maxHeartbeats 16000000
namespace Go.Hw
def wOwn:Str:=[111,119,110]
def wLocked:Str:=[108,111,99,107,101,100]
def wNotes:Str:=[110,111,116,101,115]
def Chain.hd4 (c:Chain):List Str:=[decB c.id,wayT c.state.way,decB c.state.ver,decB (c.past.length:Nat)]
def Chain.wd1 (c:Chain):List Str:=c.hd4++[wOwn]++c.bank.own.map decB
def Chain.wd2 (c:Chain):List Str:=c.wd1++[wLocked,decB c.bank.locked,wNotes]++c.bank.notes.map decB
def Chain.wd (c:Chain) (n:Nat):List Str:=c.wd2++(List.range n).map fun k:Nat=>setW (c.state.settledV ((k:Int)+1))
theorem wd_zero (c:Chain):c.wd 0=c.wd2:=by simp [Chain.wd]
theorem wd_succ (c:Chain) (n:Nat):c.wd (n+1)=c.wd n++[setW (c.state.settledV ((n:Int)+1))]:=by
 unfold Chain.wd;rw [List.range_succ,List.map_append,← List.append_assoc];rfl
theorem settled_set (s:State) (i:Nat) (h:i < s.sent.length) (ho:s.live.getD i false=false ∨ s.back.getD i false=false):setW (s.settledV ((i:Int)+1))=setT (s.live.getD i false) (s.back.getD i false):=by
 unfold State.settledV
 have h1:In ((i:Int)+1) 1 s.sent.length=true:=In_iff.2 (by omega)
 have h2:((i:Int)+1 - 1).toNat=i:=by omega
 rw [if_pos h1,h2]
 unfold setT setW
 cases hl:s.live.getD i false<;>cases hb:s.back.getD i false<;>simp_all
theorem tail_list (m:List Int):Lib.joinTail [32] (m.map decB)=listT m:=by
 induction m with
 | nil=>rfl
 | cons n r ih =>
   simp only [Lib.joinTail,List.map_cons,List.flatten_cons] at ih ⊢
   rw [ih];simp [listT]
theorem tail_app (x y:List Str):Lib.joinTail [32] (x++y)=Lib.joinTail [32] x++Lib.joinTail [32] y:=by simp [Lib.joinTail]
theorem tail_sets (s:State) (hs:s.ok=true):∀ n,n≤s.sent.length→Lib.joinTail [32] ((List.range n).map fun k:Nat=>setW (s.settledV ((k:Int)+1)))=setsT s n
 | 0,_=>rfl
 | n+1,h=>by
   rw [List.range_succ,List.map_append,tail_app,tail_sets s hs n (by omega)]
   have h7:=(state_ok hs).2.2.2.2.2.2.1 n (by omega)
   simp only [List.map_cons,List.map_nil,setsT]
   rw [settled_set s n (by omega) (sentOk_iff h7).2.2.1]
   simp [Lib.joinTail]
theorem join_text (c:Chain) (hs:c.state.ok=true):Lib.join (c.wd c.state.sent.length) [32]++[10]=c.text:=by
 unfold Chain.wd Chain.wd2 Chain.wd1 Chain.hd4 Chain.text Chain.head
 simp only [List.cons_append,List.nil_append,List.append_assoc]
 rw [Lib.join_cons]
 have e:∀ (x:Str) (r:List Str),Lib.joinTail [32] (x ::r)=32 ::(x++Lib.joinTail [32] r):=fun x r=>by simp [Lib.joinTail]
 rw [e,e,e,e,tail_app,tail_list,e,e,e,tail_app,tail_list,tail_sets c.state hs _ (Nat.le_refl _)]
 simp [wOwn,wLocked,wNotes]
theorem wd_len (c:Chain) (h:c.ok=true) (n:Nat):(c.wd n).length=14+n:=by
 obtain ⟨_,hb,_⟩:=chain_ok h
 obtain ⟨h1,h2,_⟩:=bank_ok hb
 have:=parts_len h1
 have:=parts_len h2
 simp [Chain.wd,Chain.wd2,Chain.wd1,Chain.hd4];omega
def Chain.jn (c:Chain):Str:=Lib.join (c.wd c.state.sent.length) [32]
theorem jn_text (c:Chain) (hs:c.state.ok=true):c.jn++[10]=c.text:=join_text c hs
theorem jn_ne (c:Chain):c.jn ≠ []:=by
 unfold Chain.jn Chain.wd Chain.wd2 Chain.wd1 Chain.hd4
 simp only [List.cons_append,List.nil_append,List.append_assoc]
 rw [Lib.join_cons]
 simp [Lib.joinTail]
theorem wd1_eq (c:Chain):[decB c.id,wayT c.state.way,decB c.state.ver,decB (c.past.length:Nat),[111,119,110]]++c.bank.own.map decB=c.wd1:=rfl
theorem wd2_eq (c:Chain):c.wd1++[[108,111,99,107,101,100],decB c.bank.locked,[110,111,116,101,115]]++c.bank.notes.map decB=c.wd2:=rfl
attribute [irreducible] Chain.jn Chain.wd Chain.wd2 Chain.wd1
end Go.Hw
