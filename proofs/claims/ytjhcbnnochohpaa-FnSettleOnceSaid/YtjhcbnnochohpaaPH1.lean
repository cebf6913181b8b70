/- What is proved here: parts of the walk of the law and of its plain side; no condition but those that each theorem states. -/
import Derived.Calls
import Derived.WalkKit
import Derived.Laws.StructEq
set_option linter.all false
set_option maxRecDepth 100000
set_option maxHeartbeats 16000000
namespace Go.Hw
inductive TV where
 | v (x:Value)
 | sl (w n:Nat) (f:Nat→Nat→TV)
 | ptr (w:Nat) (f:Nat→TV)
def plain:Value→Bool
 | .agg _=>false
 | .tuple _=>false
 | _=>true
def TV.At (w:World) (A:Nat→Prop):TV→Value→Prop
 | .v x,y=>y=x∧plain x=true
 | .sl wd n f,y=>∃ a cap,y=.slice a n cap∧n≤cap∧∀ i,i < n→∃ b o,a=some ⟨b,o,none⟩∧A b ∧
     ∀ j,j < wd→∃ z,w.cell? ⟨b,o+(i * wd+j),none⟩=some z∧(f i j).At w A z
 | .ptr wd f,y=>∃ b o,y=.pointer (some ⟨b,o,none⟩)∧A b ∧
     ∀ j,j < wd→∃ z,w.cell? ⟨b,o+j,none⟩=some z∧(f j).At w A z
theorem cell?_of_heap {w w':World} {b o:Nat} (h:w'.heap[b]? = w.heap[b]?):w'.cell? ⟨b,o,none⟩=w.cell? ⟨b,o,none⟩:=by
 simp [World.cell?,h]
theorem TV.At.mono {w w':World} {A A':Nat→Prop} (hA:∀ b,A b→A' b) (hw:∀ b,A b→w'.heap[b]? = w.heap[b]?) :
   ∀ {x:TV} {y:Value},x.At w A y→x.At w' A' y:=by
 intro x
 induction x with
 | v x=>intro y h;exact h
 | sl wd n f ih =>
   rintro y ⟨a,cap,rfl,hcap,h⟩
   refine ⟨a,cap,rfl,hcap,fun i hi=>?_⟩
   obtain ⟨b,o,ha,hb,hc⟩:=h i hi
   refine ⟨b,o,ha,hA b hb,fun j hj=>?_⟩
   obtain ⟨z,hz,hf⟩:=hc j hj
   exact ⟨z,by rw [cell?_of_heap (hw b hb)];exact hz,ih i j hf⟩
 | ptr wd f ih =>
   rintro y ⟨b,o,rfl,hb,hc⟩
   refine ⟨b,o,rfl,hA b hb,fun j hj=>?_⟩
   obtain ⟨z,hz,hf⟩:=hc j hj
   exact ⟨z,by rw [cell?_of_heap (hw b hb)];exact hz,ih j hf⟩
abbrev Rho:=Nat→Option (Nat × Nat)
inductive Cell where
 | t (x:TV)
 | ptr (h wd i j:Nat)
 | sl (h wd s n:Nat)
 | tp (wd:Nat) (f:Nat→TV) (j:Nat)
 | mp (h:Nat)
 | ch (h:Nat)
 | fp (m:Bool) (f:FuncId) (h wd i j:Nat)
def Cell.At (w:World) (A:Nat→Prop) (ρ:Rho):Cell→Value→Prop
 | .t x,y=>x.At w A y
 | .ptr h wd i j,y=>∃ b m,ρ h=some (b,m)∧y=.pointer (some ⟨b,i * wd+j,none⟩)
 | .sl h wd s n,y=>(n=0∧∃ a,y=.slice a 0 0) ∨ (n ≠ 0∧∃ b m cap,ρ h=some (b,m)∧y=.slice (some ⟨b,s * wd,none⟩) n cap∧(n≤cap∧cap≤9223372036854775807)∧(s+cap) * wd≤m)
 | .tp wd f j,y=>∃ b o,y=.pointer (some ⟨b,o+j,none⟩)∧A b ∧
     ∀ k,k < wd→∃ z,w.cell? ⟨b,o+k,none⟩=some z∧(f k).At w A z
 | .mp h,y=>∃ b m,ρ h=some (b,m)∧y=.map (some b)
 | .ch h,y=>∃ b m,ρ h=some (b,m)∧y=.chan (some b)
 | .fp q f h wd i j,y=>∃ b m,ρ h=some (b,m)∧y=bif q then .func (.func f) #[.pointer (some ⟨b,i * wd+j,none⟩)] #[] else .func (.func f) #[] #[.pointer (some ⟨b,i * wd+j,none⟩)]
theorem TV.At.plain {w:World} {A:Nat→Prop} {x:TV} {y:Value} (h:x.At w A y):plain y=true:=by
 cases x with
 | v x=>obtain ⟨rfl,h⟩:=h;exact h
 | sl wd n f=>obtain ⟨a,cap,rfl,_⟩:=h;rfl
 | ptr wd f=>obtain ⟨b,o,rfl,_⟩:=h;rfl
theorem Cell.At.plain {w:World} {A:Nat→Prop} {ρ:Rho} {x:Cell} {y:Value} (h:x.At w A ρ y):plain y=true:=by
 cases x with
 | t x=>exact TV.At.plain h
 | ptr h' wd i j=>obtain ⟨b,m,_,rfl⟩:=h;rfl
 | sl h' wd s n=>rcases h with ⟨_,a,rfl⟩|⟨_,b,m,cap,_,rfl,_⟩<;>rfl
 | tp wd f j=>obtain ⟨b,o,rfl,_⟩:=h;rfl
 | mp h'=>obtain ⟨b,m,_,rfl⟩:=h;rfl
 | ch h'=>obtain ⟨b,m,_,rfl⟩:=h;rfl
 | fp q f h' wd i j=>obtain ⟨b,m,_,rfl⟩:=h;cases q<;>rfl
theorem Cell.At.mono {w w':World} {A A':Nat→Prop} {ρ ρ':Rho} (hA:∀ b,A b→A' b) (hw:∀ b,A b→w'.heap[b]? = w.heap[b]?)
   (hρ:∀ h b,ρ h=some b→ρ' h=some b):∀ {x:Cell} {y:Value},x.At w A ρ y→x.At w' A' ρ' y:=by
 intro x y h
 cases x with
 | t x=>exact TV.At.mono hA hw h
 | ptr h' wd i j=>obtain ⟨b,m,h1,h2⟩:=h;exact ⟨b,m,hρ _ _ h1,h2⟩
 | sl h' wd s n =>
   rcases h with h|⟨h0,b,m,cap,h1,h2⟩
   · exact .inl h
   · exact .inr ⟨h0,b,m,cap,hρ _ _ h1,h2⟩
 | tp wd f j =>
   obtain ⟨b,o,h1,h2,h3⟩:=h
   refine ⟨b,o,h1,hA _ h2,fun k hk=>?_⟩
   obtain ⟨z,hz,hf⟩:=h3 k hk
   exact ⟨z,by rw [cell?_of_heap (hw b h2)];exact hz,TV.At.mono hA hw hf⟩
 | mp h'=>obtain ⟨b,m,h1,h2⟩:=h;exact ⟨b,m,hρ _ _ h1,h2⟩
 | ch h'=>obtain ⟨b,m,h1,h2⟩:=h;exact ⟨b,m,hρ _ _ h1,h2⟩
 | fp q f h' wd i j=>obtain ⟨b,m,h1,h2⟩:=h;exact ⟨b,m,hρ _ _ h1,h2⟩
theorem sl_full {w:World} {A:Nat→Prop} {ρ:Rho} {h wd s n b m:Nat} (hk:ρ h=some (b,m)) (hm:(s+n) * wd≤m) (hM:n≤9223372036854775807):(Cell.sl h wd s n).At w A ρ (.slice (some ⟨b,s * wd,none⟩) n n):=by
 by_cases h0:n=0
 · subst h0;exact .inl ⟨rfl,_,rfl⟩
 · exact .inr ⟨h0,b,m,n,hk,rfl,⟨Nat.le_refl _,hM⟩,hm⟩
def All2 {α β:Type} (R:α→β→Prop):List α→List β→Prop
 | [],[]=>True
 | a ::l,b ::m=>R a b∧All2 R l m
 | _,_=>False
theorem All2.mono {α β:Type} {R R':α→β→Prop} (h:∀ a b,R a b→R' a b):∀ {l:List α} {m:List β},All2 R l m→All2 R' l m
 | [],[],_=>trivial
 | [],_ ::_,x=>x.elim
 | _ ::_,[],x=>x.elim
 | _ ::_,_ ::_,⟨x,y⟩=>⟨h _ _ x,All2.mono h y⟩
theorem All2.length {α β:Type} {R:α→β→Prop}:∀ {l:List α} {m:List β},All2 R l m→l.length=m.length
 | [],[],_=>rfl
 | [],_ ::_,x=>x.elim
 | _ ::_,[],x=>x.elim
 | _ ::_,_ ::_,⟨_,y⟩=>by simp [All2.length y]
theorem All2.get {α β:Type} {R:α→β→Prop}:∀ {l:List α} {m:List β},All2 R l m→∀ {i:Nat} {a:α},l[i]? = some a→∃ b,m[i]? = some b∧R a b
 | [],_,_,i,a,h=>by simp at h
 | _ ::_,[],x,_,_,_=>x.elim
 | a ::l,b ::m,⟨x,y⟩,0,a',h=>by simp at h;subst h;exact ⟨b,by simp,x⟩
 | a ::l,b ::m,⟨_,y⟩,i+1,a',h=>by
   simp only [List.getElem?_cons_succ] at h
   obtain ⟨b',h1,h2⟩:=All2.get y h
   exact ⟨b',by simpa using h1,h2⟩
theorem All2.get' {α β:Type} {R:α→β→Prop}:∀ {l:List α} {m:List β},All2 R l m→∀ {i:Nat} {b:β},m[i]? = some b→∃ a,l[i]? = some a∧R a b
 | _,[],_,i,a,h=>by simp at h
 | [],_ ::_,x,_,_,_=>x.elim
 | a ::l,b ::m,⟨x,y⟩,0,a',h=>by simp at h;subst h;exact ⟨a,by simp,x⟩
 | a ::l,b ::m,⟨_,y⟩,i+1,a',h=>by
   simp only [List.getElem?_cons_succ] at h
   obtain ⟨b',h1,h2⟩:=All2.get' y h
   exact ⟨b',by simpa using h1,h2⟩
theorem All2.of_get {α β:Type} {R:α→β→Prop}:∀ {l:List α} {m:List β},l.length=m.length→(∀ (i:Nat) (a:α) (b:β),l[i]? = some a→m[i]? = some b→R a b)→All2 R l m
 | [],[],_,_=>trivial
 | [],_ ::_,h,_=>by simp at h
 | _ ::_,[],h,_=>by simp at h
 | a ::l,b ::m,h,g=>⟨g 0 a b (by simp) (by simp),All2.of_get (by simpa using h) fun i a' b' ha hb=>g (i+1) a' b' (by simpa using ha) (by simpa using hb)⟩
theorem All2.append {α β:Type} {R:α→β→Prop}:∀ {l l':List α} {m m':List β},All2 R l m→All2 R l' m'→All2 R (l++l') (m++m')
 | [],_,[],_,_,h=>h
 | [],_,_ ::_,_,x,_=>x.elim
 | _ ::_,_,[],_,x,_=>x.elim
 | _ ::_,_,_ ::_,_,⟨x,y⟩,h=>⟨x,All2.append y h⟩
theorem All2.drop {α β:Type} {R:α→β→Prop}:∀ (k:Nat) {l:List α} {m:List β},All2 R l m→All2 R (l.drop k) (m.drop k)
 | 0,_,_,h=>by simpa using h
 | _+1,[],[],_=>trivial
 | _+1,[],_ ::_,x=>x.elim
 | _+1,_ ::_,[],x=>x.elim
 | k+1,_ ::_,_ ::_,⟨_,y⟩=>by simpa using All2.drop k y
theorem All2.take {α β:Type} {R:α→β→Prop}:∀ (k:Nat) {l:List α} {m:List β},All2 R l m→All2 R (l.take k) (m.take k)
 | 0,_,_,_=>by simp [All2]
 | _+1,[],[],_=>by simp [All2]
 | _+1,[],_ ::_,x=>x.elim
 | _+1,_ ::_,[],x=>x.elim
 | k+1,_ ::_,_ ::_,⟨x,y⟩=>by simpa [All2] using ⟨x,All2.take k y⟩
theorem All2.set {α β:Type} {R:α→β→Prop} {a:α} {b:β} (hr:R a b):∀ (k:Nat) {l:List α} {m:List β},All2 R l m→All2 R (l.set k a) (m.set k b)
 | _,[],[],_=>by simp [All2]
 | _,[],_ ::_,x=>x.elim
 | _,_ ::_,[],x=>x.elim
 | 0,_ ::_,_ ::_,⟨_,y⟩=>by simpa [All2] using ⟨hr,y⟩
 | k+1,_ ::_,_ ::_,⟨x,y⟩=>by simpa [All2] using ⟨x,All2.set hr k y⟩
inductive A1 where
 | c (x:Cell)
 | g (l:List Cell)
def A1.At (w:World) (A:Nat→Prop) (ρ:Rho):A1→Value→Prop
 | .c x,y=>x.At w A ρ y
 | .g l,y=>∃ cs:Array Value,y=.agg cs∧All2 (Cell.At w A ρ) l cs.toList
def A1.cells:A1→List Cell
 | .c x=>[x]
 | .g l=>l
theorem A1.At.cells {w:World} {A:Nat→Prop} {ρ:Rho} {x:A1} {y:Value} (h:x.At w A ρ y):All2 (Cell.At w A ρ) x.cells y.cells.toList:=by
 cases x with
 | c x =>
   have hp:=Cell.At.plain h
   have:y.cells=#[y]:=by cases y<;>simp_all [plain,Value.cells]
   rw [this];exact ⟨h,trivial⟩
 | g l=>obtain ⟨cs,rfl,h⟩:=h;exact h
inductive AV where
 | o (a:A1)
 | tup (l:List A1)
def AV.At (w:World) (A:Nat→Prop) (ρ:Rho):AV→Value→Prop
 | .o a,y=>a.At w A ρ y
 | .tup l,y=>∃ vs:Array Value,y=.tuple vs∧All2 (A1.At w A ρ) l vs.toList
section mono
variable {w w':World} {A A':Nat→Prop} {ρ ρ':Rho} (hA:∀ b,A b→A' b) (hw:∀ b,A b→w'.heap[b]? = w.heap[b]?)
   (hρ:∀ h b,ρ h=some b→ρ' h=some b)
include hA hw hρ
theorem A1.At.mono {x:A1} {y:Value} (h:x.At w A ρ y):x.At w' A' ρ' y:=by
 cases x with
 | c x=>exact Cell.At.mono hA hw hρ h
 | g l=>obtain ⟨cs,rfl,h⟩:=h;exact ⟨cs,rfl,All2.mono (fun _ _=>Cell.At.mono hA hw hρ) h⟩
theorem AV.At.mono {x:AV} {y:Value} (h:x.At w A ρ y):x.At w' A' ρ' y:=by
 cases x with
 | o x=>exact A1.At.mono hA hw hρ h
 | tup l=>obtain ⟨cs,rfl,h⟩:=h;exact ⟨cs,rfl,All2.mono (fun _ _=>A1.At.mono hA hw hρ) h⟩
end mono
inductive AObj where
 | box (l:List Cell)
 | row (wd n:Nat) (f:Nat→Nat→Cell)
 | raw (o:Obj)
 | glob (g:Nat) (v:Value)
 | tbx (e:TypeId) (l:List Cell)
def tyG (g:Nat):TypeId:=if g=0 then 3 else 66
def AObj.At (w:World) (A:Nat→Prop) (ρ:Rho):AObj→Nat→Nat→Prop
 | .box l,b,m=>∃ cs e,w.heap[b]? = some (.cells cs e (0,0))∧cs.size=m∧All2 (Cell.At w A ρ) l cs.toList
 | .row wd n f,b,m=>∃ cs e,w.heap[b]? = some (.cells cs e (0,0))∧cs.size=m∧n * wd≤m ∧
     ∀ i,i < n→∀ j,j < wd→∃ z,cs[i * wd+j]? = some z∧(f i j).At w A ρ z
 | .raw o,b,_=>w.heap[b]? = some o∧∀ cs e fr,o ≠ .cells cs e fr
 | .glob g v,b,_=>b=g∧w.cell? ⟨g,0,none⟩=some v∧plain v=true∧w.heap[g]? = some (.cells #[v] (tyG g) (0,0))
 | .tbx e l,b,m=>∃ cs,w.heap[b]? = some (.cells cs e (0,0))∧cs.size=m∧All2 (Cell.At w A ρ) l cs.toList
theorem AObj.At.mono {w w':World} {A A':Nat→Prop} {ρ ρ':Rho} {x:AObj} {b m:Nat} (hA:∀ b,A b→A' b) (hw:∀ b,A b→w'.heap[b]? = w.heap[b]?)
   (hρ:∀ h b,ρ h=some b→ρ' h=some b) (hb:w'.heap[b]? = w.heap[b]?) (h:x.At w A ρ b m):x.At w' A' ρ' b m:=by
 cases x with
 | box l =>
   obtain ⟨cs,e,h1,h2,h3⟩:=h
   exact ⟨cs,e,by rw [hb];exact h1,h2,All2.mono (fun _ _=>Cell.At.mono hA hw hρ) h3⟩
 | row wd n f =>
   obtain ⟨cs,e,h1,h2,h3,h4⟩:=h
   refine ⟨cs,e,by rw [hb];exact h1,h2,h3,fun i hi j hj=>?_⟩
   obtain ⟨z,hz,hf⟩:=h4 i hi j hj
   exact ⟨z,hz,Cell.At.mono hA hw hρ hf⟩
 | raw o=>exact ⟨by rw [hb];exact h.1,h.2⟩
 | glob g v=>obtain ⟨rfl,h1,h2,h3⟩:=h;exact ⟨rfl,by rw [cell?_of_heap hb];exact h1,h2,by rw [hb];exact h3⟩
 | tbx e l =>
   obtain ⟨cs,h1,h2,h3⟩:=h
   exact ⟨cs,by rw [hb];exact h1,h2,All2.mono (fun _ _=>Cell.At.mono hA hw hρ) h3⟩
def AObj.real:AObj→Prop
 | .row _ n _=>n ≠ 0
 | _=>True
abbrev Heap:=List (Nat × AObj)
def blkOf (ρ:Rho) (H:Heap) (b:Nat):Prop:=∃ x ∈ H,x.2.real∧∃ m,ρ x.1=some (b,m)
structure HeapAt (w:World) (A:Nat→Prop) (ρ:Rho) (H:Heap):Prop where
 objs:∀ x,x ∈ H→x.2.real→∃ b m,ρ x.1=some (b,m)∧x.2.At w A ρ b m∧¬ A b∧b < w.heap.size
 inj:H.Pairwise fun x y=>x.2.real→y.2.real→∀ p q,ρ x.1=some p→ρ y.1=some q→p.1 ≠ q.1
def look {α:Type} (k:Nat):List (Nat × α)→Option α
 | []=>none
 | (j,v) ::r=>bif Nat.beq j k then some v else look k r
def rem {α:Type} (k:Nat):List (Nat × α)→List (Nat × α)
 | []=>[]
 | (j,v) ::r=>bif Nat.beq j k then r else (j,v) ::rem k r
def upd {α:Type} (k:Nat) (x:α):List (Nat × α)→List (Nat × α)
 | []=>[]
 | (j,v) ::r=>bif Nat.beq j k then (j,x) ::r else (j,v) ::upd k x r
theorem look_mem {α:Type} {k:Nat} {v:α}:∀ {l:List (Nat × α)},look k l=some v→(k,v) ∈ l
 | [],h=>by simp [look] at h
 | (j,u) ::r,h=>by
   simp only [look,cond_eq_ite] at h
   split at h
   · rename_i e;simp at e;injection h with h;subst h;subst e;simp
   · exact List.mem_cons_of_mem _ (look_mem h)
theorem rem_sub {α:Type} {k:Nat}:∀ {l:List (Nat × α)},(rem k l).Sublist l
 | []=>by simp [rem]
 | (j,u) ::r=>by
   simp only [rem,cond_eq_ite]
   split
   · exact List.sublist_cons_self _ _
   · exact List.Sublist.cons_cons _ rem_sub
theorem apart_of {ρ:Rho} {k:Nat} {v:AObj}:∀ {H:Heap},H.Pairwise (fun x y=>x.2.real→y.2.real→∀ p q,ρ x.1=some p→ρ y.1=some q→p.1 ≠ q.1)→look k H=some v→v.real →
   ∀ x ∈ rem k H,x.2.real→∀ p q,ρ k=some p→ρ x.1=some q→p.1 ≠ q.1
 | [],_,h=>by simp [look] at h
 | (j, u) ::r,hp,h=>by
   intro hv x hx hxr p q hp1 hq
   simp only [look,cond_eq_ite] at h
   simp only [rem,cond_eq_ite] at hx
   rw [List.pairwise_cons] at hp
   split at h
   · rename_i e
     simp only [e,if_true] at hx
     have ej:j=k:=by simpa using e
     subst ej
     injection h with h;subst h
     exact hp.1 x hx hv hxr p q hp1 hq
   · rename_i e
     simp only [e] at hx
     rcases List.mem_cons.1 hx with hx|hx
     · subst hx
       exact fun h'=>hp.1 (k,v) (look_mem h) hxr hv q p hq hp1 h'.symm
     · exact apart_of hp.2 h hv x hx hxr p q hp1 hq
theorem HeapAt.sub {w:World} {A:Nat→Prop} {ρ:Rho} {H H':Heap} (h:HeapAt w A ρ H) (hs:H'.Sublist H):HeapAt w A ρ H' :=
 ⟨fun x hx=>h.objs x (hs.subset hx),h.inj.sublist hs⟩
theorem HeapAt.perm {w:World} {A:Nat→Prop} {ρ:Rho} {H H':Heap} (h:HeapAt w A ρ H) (hs:H.Perm H'):HeapAt w A ρ H' :=
 ⟨fun x hx=>h.objs x (hs.mem_iff.2 hx),hs.pairwise h.inj (fun {_ _} hxy h1 h2 p q hp hq e=>hxy h2 h1 q p hq hp e.symm)⟩
end Go.Hw
namespace Go.Hw
structure St where
 t:List (Nat × AV)
 h:Heap
 nx:Nat
structure Ctx where
 w0:World
 A0:Nat→Prop
 ρ0:Rho
 k0:Nat
 F:Nat→Prop
 nt:Nat
 lo:Nat
 hlo:lo≤w0.heap.size
 dm:Option (List Deferred):=none
structure Marks (lo:Nat) (A:Nat→Prop) (ds:List Deferred) (w:World):Prop where
 all:∀ d ∈ ds,∃ D,d=({ target:=.collected D,args:=#[] }:Deferred)∧A D∧lo≤D∧w.heap[D]? = some (.deferred (some []))
 apart:ds.Pairwise (fun x y=>x ≠ y)
theorem Marks.nil {lo:Nat} {A:Nat→Prop} {w:World}:Marks lo A [] w:=⟨(fun _ hd=>absurd hd (List.not_mem_nil)),List.Pairwise.nil⟩
theorem Marks.mono {lo:Nat} {A A':Nat→Prop} {ds:List Deferred} {w w':World} (h:Marks lo A ds w) (hA:∀ b,A b→A' b) (hw:∀ b,A b→w'.heap[b]? = w.heap[b]?):Marks lo A' ds w' :=
 ⟨fun d hd=>let ⟨D,h1,h2,h3,h4⟩:=h.all d hd;⟨D,h1,hA D h2,h3,(hw D h2).trans h4⟩,h.apart⟩
def Dfs (c:Ctx) (A:Nat→Prop) (ds:List Deferred) (w:World):Prop:=match c.dm with
 | none=>Marks c.lo A ds w
 | some l=>ds=l
theorem Dfs.mono {c:Ctx} {A A':Nat→Prop} {ds:List Deferred} {w w':World} (h:Dfs c A ds w) (hA:∀ b,A b→A' b) (hw:∀ b,A b→w'.heap[b]? = w.heap[b]?):Dfs c A' ds w':=by
 unfold Dfs at h ⊢
 cases hd:c.dm with
 | none=>rw [hd] at h;exact Marks.mono h hA hw
 | some l=>rw [hd] at h;exact h
theorem Dfs.marks {c:Ctx} {A:Nat→Prop} {ds:List Deferred} {w:World} (h:Dfs c A ds w) (hd:c.dm=none):Marks c.lo A ds w:=by unfold Dfs at h;rw [hd] at h;exact h
theorem Dfs.of {c:Ctx} {A:Nat→Prop} {ds:List Deferred} {w:World} (h:Marks c.lo A ds w) (hd:c.dm=none):Dfs c A ds w:=by unfold Dfs;rw [hd];exact h
structure Rep (c:Ctx) (s:St) (a:Act) (w:World) (A:Nat→Prop) (ρ:Rho):Prop where
 heap:HeapAt w A ρ s.h
 tmps:∀ k v,look k s.t=some v→v.At w A ρ (a.tmps.getD k undef)
 nt:a.tmps.size=c.nt
 defers:Dfs c A a.defers w
 os:w.os=c.w0.os
 tape:w.tape=c.w0.tape
 output:w.output=c.w0.output
 size:c.w0.heap.size≤w.heap.size
 frame:∀ b,b < c.w0.heap.size→¬ c.F b→w.heap[b]? = c.w0.heap[b]?
 own:∀ x ∈ s.h,x.2.real→∀ b m,ρ x.1=some (b,m)→c.F b ∨ c.w0.heap.size≤b
 imm:∀ b,A b→b < w.heap.size∧(c.A0 b ∨ c.F b ∨ c.w0.heap.size≤b)
 old:∀ h,h < c.k0→ρ h=c.ρ0 h
 new:∀ h,s.nx≤h→ρ h=none
 k0:c.k0≤s.nx
def ext (ρ:Rho) (n:Nat) (p:Nat × Nat):Rho:=fun k=>if k=n then some p else ρ k
theorem ext_self {ρ:Rho} {n:Nat} {p:Nat × Nat}:ext ρ n p n=some p:=by simp [ext]
theorem ext_ne {ρ:Rho} {n k:Nat} {p:Nat × Nat} (h:k ≠ n):ext ρ n p k=ρ k:=by simp [ext,h]
def Abs (c:Ctx) (s:St) (a:Act) (w:World):Prop:=∃ A ρ,Rep c s a w A ρ
def St.put (s:St) (d:Option Nat) (v:AV):St :=
 match d with
 | some d=>{ s with t:=(d,v) ::s.t }
 | none=>s
theorem getD_set_self {xs:Array Value} {d:Nat} {v u:Value} (h:d < xs.size):(xs.setIfInBounds d v).getD d u=v:=by
 simp [Array.getD_eq_getD_getElem?,Array.getElem?_setIfInBounds,h]
theorem getD_set_ne {xs:Array Value} {d k:Nat} {v u:Value} (h:d ≠ k):(xs.setIfInBounds d v).getD k u=xs.getD k u:=by
 simp [Array.getD_eq_getD_getElem?,Array.getElem?_setIfInBounds,h]
section
variable {c:Ctx} {s:St} {a:Act} {w:World} {A:Nat→Prop} {ρ:Rho}
theorem Rep.put (h:Rep c s a w A ρ) {d:Option Nat} {v:AV} {y:Value} (hd:∀ k,d=some k→k < c.nt) (hv:v.At w A ρ y) :
   Rep c (s.put d v) (a.put d y) w A ρ:=by
 cases d with
 | none=>exact h
 | some d =>
   have hd:=hd d rfl
   refine { heap:=h.heap,tmps:=?_,nt:=by simp [Act.put,h.nt],defers:=h.defers,os:=h.os,tape:=h.tape,output:=h.output,size:=h.size,frame:=h.frame,own:=h.own,imm:=h.imm,old:=h.old,new:=h.new,k0:=h.k0 }
   intro k u hk
   simp only [St.put,look,cond_eq_ite] at hk
   simp only [Act.put]
   split at hk
   · rename_i e
     have e:d=k:=by simpa using e
     subst e;injection hk with hk;subst hk
     rw [getD_set_self (by rw [h.nt];exact hd)];exact hv
   · rename_i e
     rw [getD_set_ne (by intro e';subst e';simp at e)]
     exact h.tmps k u hk
theorem look_filter {α:Type} {k d:Nat} {v:α}:∀ {l:List (Nat × α)},look k (l.filter fun x=>!Nat.beq x.1 d)=some v→k ≠ d∧look k l=some v
 | [],h=>by simp [look] at h
 | (j, u) ::r,h=>by
   by_cases e:Nat.beq j d=true
   · simp only [List.filter_cons,e,Bool.not_true,Bool.false_eq_true,if_false] at h
     obtain ⟨h1,h2⟩:=look_filter h
     refine ⟨h1,?_⟩
     have hj:j=d:=by simpa using e
     have:Nat.beq j k=false:=by
       cases hb:Nat.beq j k with
       | false=>rfl
       | true => have:j=k:=by simpa using hb
                 exact absurd (this.symm.trans hj) h1
     simp only [look,this,cond_false];exact h2
   · have e':Nat.beq j d=false:=by cases hb:Nat.beq j d with|false=>rfl|true=>exact absurd hb e
     simp only [List.filter_cons,e',Bool.not_false,if_true] at h
     simp only [look] at h ⊢
     cases hb:Nat.beq j k with
     | true =>
       rw [hb] at h
       have:j=k:=by simpa using hb
       subst this
       exact ⟨fun x=>by subst x;simp at e',h⟩
     | false=>rw [hb] at h;exact look_filter h
def St.skip (s:St) (d:Option Nat):St :=
 match d with
 | some d=>{ s with t:=s.t.filter fun x=>!Nat.beq x.1 d }
 | none=>s
theorem Rep.skip (h:Rep c s a w A ρ) {d:Option Nat}:Rep c (s.skip d) (a.put d undef) w A ρ:=by
 cases d with
 | none=>exact h
 | some d =>
   refine { heap:=h.heap,tmps:=?_,nt:=by simp [Act.put,h.nt],defers:=h.defers,os:=h.os,tape:=h.tape,output:=h.output,size:=h.size,frame:=h.frame,own:=h.own,imm:=h.imm,old:=h.old,new:=h.new,k0:=h.k0 }
   intro k u hk
   obtain ⟨h1,h2⟩:=look_filter hk
   simp only [Act.put]
   rw [getD_set_ne (Ne.symm h1)]
   exact h.tmps k u h2
theorem Rep.change (h:Rep c s a w A ρ) {w':World} {A':Nat→Prop} {ρ':Rho} {H':Heap} {nx':Nat} {blk:Nat→Prop}
   (hos:w'.os=w.os) (htape:w'.tape=w.tape) (hout:w'.output=w.output) (hsz:w.heap.size≤w'.heap.size)
   (hkeep:∀ b,b < w.heap.size→¬ blk b→w'.heap[b]? = w.heap[b]?)
   (hblk:∀ b,blk b→b < w.heap.size→(c.F b ∨ c.w0.heap.size≤b)∧¬ A b)
   (hA:∀ b,A b→A' b) (hA':∀ b,A' b→b < w'.heap.size∧(A b ∨ c.F b ∨ c.w0.heap.size≤b))
   (hρ:∀ k b,ρ k=some b→ρ' k=some b) (hnew:∀ k,nx'≤k→ρ' k=none) (hold:∀ k,k < s.nx→ρ' k=ρ k) (hnx:s.nx≤nx')
   (hown:∀ x ∈ H',x.2.real→∀ b m,ρ' x.1=some (b,m)→c.F b ∨ c.w0.heap.size≤b)
   (hH:HeapAt w' A' ρ' H'):Rep c { s with h:=H',nx:=nx' } a w' A' ρ':=by
 have hw:∀ b,A b→w'.heap[b]? = w.heap[b]?:=fun b hb=>hkeep b (h.imm b hb).1 (fun hk=>(hblk b hk (h.imm b hb).1).2 hb)
 refine { heap:=hH,tmps:=fun k v hk=>AV.At.mono hA hw hρ (h.tmps k v hk),nt:=h.nt,defers:=h.defers.mono hA hw,os:=hos.trans h.os,tape:=htape.trans h.tape,output:=hout.trans h.output,size:=Nat.le_trans h.size hsz,frame:=?_,own:=hown,imm:=?_,old:=?_,new:=hnew,k0:=Nat.le_trans h.k0 hnx }
 · intro b hb hF
   have hb':b < w.heap.size:=Nat.lt_of_lt_of_le hb h.size
   rw [hkeep b hb' (fun hk=>by
     rcases (hblk b hk hb').1 with h1|h1
     · exact hF h1
     · omega)]
   exact h.frame b hb hF
 · intro b hb
   obtain ⟨h1,h2⟩:=hA' b hb
   refine ⟨h1,?_⟩
   rcases h2 with h2|h2
   · exact (h.imm b h2).2
   · exact .inr h2
 · intro k hk
   rw [hold k (Nat.lt_of_lt_of_le hk h.k0)];exact h.old k hk
theorem push_get {w:World} {o:Obj} {b:Nat} (h:b < w.heap.size):(w.heap.push o)[b]? = w.heap[b]?:=by
 rw [Array.getElem?_push,if_neg (by omega)]
theorem Rep.alloc (h:Rep c s a w A ρ) (o:Obj) (ao:AObj) (m:Nat)
   (hao:ao.At { w with heap:=w.heap.push o } A (ext ρ s.nx (w.heap.size,m)) w.heap.size m) :
   Rep c { s with h:=(s.nx,ao) ::s.h,nx:=s.nx+1 } a { w with heap:=w.heap.push o } A (ext ρ s.nx (w.heap.size,m)):=by
 have hρ:∀ k b,ρ k=some b→(ext ρ s.nx (w.heap.size,m)) k=some b:=by
   intro k b hk
   have:k ≠ s.nx:=by intro e;subst e;rw [h.new _ (Nat.le_refl _)] at hk;cases hk
   rw [ext_ne this];exact hk
 have hkeep:∀ b,b < w.heap.size→({ w with heap:=w.heap.push o }:World).heap[b]? = w.heap[b]?:=fun b hb=>push_get hb
 refine h.change (blk:=fun _=>False) rfl rfl rfl (by simp) (fun b hb _=>hkeep b hb) (fun _ h _=>h.elim) (fun _ h=>h) (fun b hb=>⟨by have:=(h.imm b hb).1;simp;omega,.inl hb⟩) hρ ?_ ?_ (by omega) ?_ ?_
 · intro k hk
   have:k ≠ s.nx:=by omega
   rw [ext_ne this];exact h.new k (by omega)
 · intro k hk
   have:k ≠ s.nx:=by omega
   exact ext_ne this
 · intro x hx hxr b m' hb
   rcases List.mem_cons.1 hx with hx|hx
   · subst hx;rw [ext_self] at hb;injection hb with hb;injection hb with hb1 hb2;subst hb1;subst hb2;exact .inr h.size
   · obtain ⟨b',m'',h1,h2⟩:=h.heap.objs x hx hxr
     rw [hρ _ _ h1] at hb;injection hb with hb;injection hb with hb1 hb2;subst hb1;subst hb2
     exact h.own x hx hxr _ _ h1
 · constructor
   · intro x hx hxr
     rcases List.mem_cons.1 hx with hx|hx
     · subst hx
       exact ⟨w.heap.size,m,ext_self,hao,fun hb=>by have:=(h.imm _ hb).1;omega,by simp⟩
     · obtain ⟨b',m'',h1,h2,h3,h4⟩:=h.heap.objs x hx hxr
       exact ⟨b',m'',hρ _ _ h1,h2.mono (fun _ h=>h) (fun b hb=>hkeep b (h.imm b hb).1) hρ (hkeep b' h4),h3,by simp;omega⟩
   · rw [List.pairwise_cons]
     refine ⟨fun x hx _ hxr p q hp hq=>?_,?_⟩
     · obtain ⟨b',m'',h1,h2,h3,h4⟩:=h.heap.objs x hx hxr
       rw [ext_self] at hp;injection hp with hp;subst hp
       rw [hρ _ _ h1] at hq;injection hq with hq;subst hq
       show w.heap.size ≠ b'
       omega
     · refine List.Pairwise.imp_of_mem ?_ h.heap.inj
       intro x y hx hy hxy hxr hyr p q hp hq
       obtain ⟨b1,m1,e1,_⟩:=h.heap.objs x hx hxr
       obtain ⟨b2,m2,e2,_⟩:=h.heap.objs y hy hyr
       rw [hρ _ _ e1] at hp;rw [hρ _ _ e2] at hq
       injection hp with hp;injection hq with hq;subst hp;subst hq
       exact hxy hxr hyr _ _ e1 e2
theorem mem_upd {α:Type} {k:Nat} {v:α} {x:Nat × α}:∀ {l:List (Nat × α)},x ∈ upd k v l→(x=(k,v)∧∃ u,look k l=some u) ∨ x ∈ rem k l
 | [],h=>by simp [upd] at h
 | (j, u) ::r,h=>by
   simp only [upd,cond_eq_ite] at h
   simp only [rem,look,cond_eq_ite]
   split at h
   · rename_i e
     simp only [e,if_true]
     have ej:j=k:=by simpa using e
     rcases List.mem_cons.1 h with h|h
     · exact .inl ⟨by rw [h,ej],u,rfl⟩
     · exact .inr h
   · rename_i e
     simp only [e]
     rcases List.mem_cons.1 h with h|h
     · exact .inr (by rw [h];simp)
     · rcases mem_upd h with h|h
       · exact .inl (by simpa using h)
       · exact .inr (by simpa using .inr h)
theorem upd_perm {α:Type} {k:Nat} {u v:α}:∀ {l:List (Nat × α)},look k l=some u→(upd k v l).Perm ((k,v) ::rem k l)
 | [],h=>by simp [look] at h
 | (j,x) ::r,h=>by
   simp only [look,cond_eq_ite] at h
   simp only [rem,upd,cond_eq_ite]
   split at h
   · rename_i e
     simp only [e,if_true]
     have ej:j=k:=by simpa using e
     subst ej;exact List.Perm.refl _
   · rename_i e
     simp only [e]
     exact (List.Perm.cons _ (upd_perm h)).trans (List.Perm.swap _ _ _)
theorem Rep.write (h:Rep c s a w A ρ) {k:Nat} {ao ao':AObj} {b m:Nat} (hl:look k s.h=some ao) (hre:ao.real) (hk:ρ k=some (b,m)) {w':World}
   (hos:w'.os=w.os) (htape:w'.tape=w.tape) (hout:w'.output=w.output) (hsz:w'.heap.size=w.heap.size)
   (hkeep:∀ b',b' ≠ b→w'.heap[b']? = w.heap[b']?) (hao:ao'.At w' A ρ b m) :
   Rep c { s with h:=upd k ao' s.h } a w' A ρ:=by
 have hmem:=look_mem hl
 obtain ⟨b0,m0,e0,_,hnA,hlt⟩:=h.heap.objs _ hmem hre
 rw [hk] at e0;injection e0 with e0;injection e0 with e1 e2;subst e1;subst e2
 have hw:∀ b',A b'→w'.heap[b']? = w.heap[b']?:=fun b' hb=>hkeep b' (fun e=>hnA (e ▸ hb))
 have hsub:∀ x ∈ rem k s.h,x ∈ s.h:=fun x hx=>rem_sub.subset hx
 refine h.change (blk:=fun x=>x=b) hos htape hout (by omega) (fun b' _ hn=>hkeep b' hn) ?_ (fun _ h=>h) (fun b' hb=>⟨by rw [hsz];exact (h.imm b' hb).1,.inl hb⟩) (fun _ _ h=>h) h.new (fun _ _=>rfl) (Nat.le_refl _) ?_ ?_
 · rintro x rfl _
   exact ⟨h.own _ hmem hre _ _ hk,hnA⟩
 · intro x hx hxr b' m' hb'
   rcases mem_upd hx with ⟨hx,_⟩|hx
   · subst hx;exact h.own _ hmem hre _ _ hb'
   · exact h.own _ (hsub x hx) hxr _ _ hb'
 · have hbase:HeapAt w' A ρ ((k,ao') ::rem k s.h):=by
     constructor
     · intro x hx hxr
       rcases List.mem_cons.1 hx with hx|hx
       · subst hx;exact ⟨b,m,hk,hao,hnA,by omega⟩
       · obtain ⟨b1,m1,e1,h2,h3,h4⟩:=h.heap.objs x (hsub x hx) hxr
         have hne:b ≠ b1:=apart_of h.heap.inj hl hre x hx hxr _ _ hk e1
         exact ⟨b1,m1,e1,h2.mono (fun _ h=>h) hw (fun _ _ h=>h) (hkeep b1 (Ne.symm hne)),h3,by omega⟩
     · rw [List.pairwise_cons]
       exact ⟨fun x hx _ hxr p q hp hq=>apart_of h.heap.inj hl hre x hx hxr p q hp hq,h.heap.inj.sublist rem_sub⟩
   exact hbase.perm (upd_perm hl).symm
theorem Rep.weaken (h:Rep c s a w A ρ) {t':List (Nat × AV)} {H':Heap} (ht:∀ k v,look k t'=some v→look k s.t=some v) (hH:H'.Sublist s.h) :
   Rep c { s with t:=t',h:=H' } a w A ρ :=
 { heap:=h.heap.sub hH,tmps:=fun k v hk=>h.tmps k v (ht k v hk),nt:=h.nt,defers:=h.defers,os:=h.os,tape:=h.tape,output:=h.output,size:=h.size,frame:=h.frame,own:=fun x hx=>h.own x (hH.subset hx),imm:=h.imm,old:=h.old,new:=h.new,k0:=h.k0 }
theorem Rep.void (h:Rep c s a w A ρ) {H':Heap} (hH:H'.Sublist s.h) {wd:Nat} {f:Nat→Nat→Cell}:Rep c { s with h:=(s.nx,.row wd 0 f) ::H',nx:=s.nx+1 } a w A ρ:=by
 have hH2:=h.heap.sub hH
 refine { heap:=⟨?_,?_⟩,tmps:=h.tmps,nt:=h.nt,defers:=h.defers,os:=h.os,tape:=h.tape,output:=h.output,size:=h.size,frame:=h.frame,own:=?_,imm:=h.imm,old:=h.old,new:=fun k hk=>h.new k (by have:s.nx+1≤k:=hk;omega),k0:=Nat.le_succ_of_le h.k0 }
 · intro x hx hxr
   rcases List.mem_cons.1 hx with hx|hx
   · subst hx;exact absurd rfl hxr
   · exact hH2.objs x hx hxr
 · rw [List.pairwise_cons]
   exact ⟨fun x _ hr=>absurd rfl hr,hH2.inj⟩
 · intro x hx hxr
   rcases List.mem_cons.1 hx with hx|hx
   · subst hx;exact absurd rfl hxr
   · exact h.own x (hH.subset hx) hxr
theorem Rep.updVoid (h:Rep c s a w A ρ) {k wd wd':Nat} {f g:Nat→Nat→Cell} (hl:look k s.h=some (.row wd 0 f)):Rep c { s with h:=upd k (.row wd' 0 g) s.h } a w A ρ:=by
 have hH2:=h.heap.sub (rem_sub (k:=k))
 have hbase:HeapAt w A ρ ((k,.row wd' 0 g) ::rem k s.h):=by
   refine ⟨?_,?_⟩
   · intro x hx hxr
     rcases List.mem_cons.1 hx with hx|hx
     · subst hx;exact absurd rfl hxr
     · exact hH2.objs x hx hxr
   · rw [List.pairwise_cons]
     exact ⟨fun x _ hr=>absurd rfl hr,hH2.inj⟩
 refine { heap:=hbase.perm (upd_perm hl).symm,tmps:=h.tmps,nt:=h.nt,defers:=h.defers,os:=h.os,tape:=h.tape,output:=h.output,size:=h.size,frame:=h.frame,own:=?_,imm:=h.imm,old:=h.old,new:=h.new,k0:=h.k0 }
 intro x hx hxr
 rcases mem_upd hx with ⟨hx,_⟩|hx
 · subst hx;exact absurd rfl hxr
 · exact h.own x (rem_sub.subset hx) hxr
theorem Rep.hand (h:Rep c s a w A ρ) {k:Nat} {ao ao':AObj} {b m b' m':Nat} (hl:look k s.h=some ao) (hre:ao.real) (hk:ρ k=some (b,m)) {w':World}
   (hos:w'.os=w.os) (htape:w'.tape=w.tape) (hout:w'.output=w.output) (hsz:w.heap.size≤w'.heap.size)
   (hkeep:∀ x,x < w.heap.size→x ≠ b→w'.heap[x]? = w.heap[x]?) (hb':b'=b ∨ (w.heap.size≤b'∧b' < w'.heap.size))
   (hao:ao'.At w' A (ext ρ s.nx (b',m')) b' m') :
   Rep c { s with h:=(s.nx,ao') ::rem k s.h,nx:=s.nx+1 } a w' A (ext ρ s.nx (b',m')):=by
 have hmem:=look_mem hl
 obtain ⟨b0,m0,e0,_,hnA,hlt⟩:=h.heap.objs _ hmem hre
 rw [hk] at e0;injection e0 with e0;injection e0 with e1 e2;subst e1;subst e2
 have hρ:∀ j x,ρ j=some x→(ext ρ s.nx (b',m')) j=some x:=by
   intro j x hj
   have:j ≠ s.nx:=by intro e;subst e;rw [h.new _ (Nat.le_refl _)] at hj;cases hj
   rw [ext_ne this];exact hj
 have hw:∀ x,A x→w'.heap[x]? = w.heap[x]?:=fun x hx=>hkeep x (h.imm x hx).1 (fun e=>hnA (e ▸ hx))
 have hsub:∀ x ∈ rem k s.h,x ∈ s.h:=fun x hx=>rem_sub.subset hx
 have hnA':¬ A b':=by
   rcases hb' with e|e
   · rw [e];exact hnA
   · intro hx;have:=(h.imm _ hx).1;omega
 refine h.change (blk:=fun x=>x=b) hos htape hout hsz hkeep ?_ (fun _ h=>h) (fun x hx=>⟨by have:=(h.imm x hx).1;omega,.inl hx⟩) hρ ?_ ?_ (by omega) ?_ ?_
 · rintro x rfl _
   exact ⟨h.own _ hmem hre _ _ hk,hnA⟩
 · intro j hj
   have:j ≠ s.nx:=by omega
   rw [ext_ne this];exact h.new j (by omega)
 · intro j hj
   have:j ≠ s.nx:=by omega
   exact ext_ne this
 · intro x hx hxr b1 m1 e1
   rcases List.mem_cons.1 hx with hx|hx
   · subst hx;rw [ext_self] at e1;injection e1 with e1;injection e1 with e1 e2;subst e1;subst e2
     rcases hb' with e|e
     · rw [e];exact h.own _ hmem hre _ _ hk
     · exact .inr (Nat.le_trans h.size e.1)
   · obtain ⟨b2,m2,h1,_⟩:=h.heap.objs x (hsub x hx) hxr
     rw [hρ _ _ h1] at e1;injection e1 with e1;injection e1 with e1 e2;subst e1;subst e2
     exact h.own _ (hsub x hx) hxr _ _ h1
 · constructor
   · intro x hx hxr
     rcases List.mem_cons.1 hx with hx|hx
     · subst hx;exact ⟨b',m',ext_self,hao,hnA',by omega⟩
     · obtain ⟨b1,m1,e1,h2,h3,h4⟩:=h.heap.objs x (hsub x hx) hxr
       have hne:b ≠ b1:=apart_of h.heap.inj hl hre x hx hxr _ _ hk e1
       exact ⟨b1,m1,hρ _ _ e1,h2.mono (fun _ h=>h) hw hρ (hkeep b1 h4 (Ne.symm hne)),h3,by omega⟩
   · rw [List.pairwise_cons]
     refine ⟨fun x hx _ hxr p q hp hq=>?_,?_⟩
     · obtain ⟨b1,m1,e1,h2,h3,h4⟩:=h.heap.objs x (hsub x hx) hxr
       rw [ext_self] at hp;injection hp with hp;subst hp
       rw [hρ _ _ e1] at hq;injection hq with hq;subst hq
       show b' ≠ b1
       rcases hb' with e|e
       · rw [e];exact apart_of h.heap.inj hl hre x hx hxr _ _ hk e1
       · omega
     · refine List.Pairwise.imp_of_mem ?_ (h.heap.inj.sublist (rem_sub (k:=k)))
       intro x y hx hy hxy hxr hyr p q hp hq
       obtain ⟨b1,m1,e1,_⟩:=h.heap.objs x (hsub x hx) hxr
       obtain ⟨b2,m2,e2,_⟩:=h.heap.objs y (hsub y hy) hyr
       rw [hρ _ _ e1] at hp;rw [hρ _ _ e2] at hq
       injection hp with hp;injection hq with hq;subst hp;subst hq
       exact hxy hxr hyr _ _ e1 e2
end
end Go.Hw
namespace Go.Hw
inductive TK where
 | sc
 | bl
 | pt
 | int (k:IntKind)
 | str
 | st (fs:List (Nat × Nat))
 | arr (n e:Nat)
 | sli (e:Nat)
 | mp (k e:Nat)
structure TI where
 k:TK
 size:Nat
 bytes:Nat
 zero:List Value
 cmp:Bool:=false
 meth:List (String × Nat):=[]
def cmpF (P:Program):Nat→List Field→Nat→Bool
 | i,[],n=>Nat.beq i n
 | i,f ::r,n=>decide (f.name ≠ "_") && Nat.beq f.offset i && (match P.underlying f.type with
   | some (.int _)=>true
   | _=>false) && cmpF P (i+1) r n
def cmpB (P:Program) (t n:Nat):Bool:=!P.stoodInHeld t && !P.eqGuardType P.depth t && match P.underlying t with
 | some (.struct fs)=>cmpF P 0 fs.toList n
 | _=>false
def TI.agg (x:TI):Bool:=match x.k with
 | .st _=>true
 | .arr _ _=>true
 | _=>false
def kindOf:TypeDesc→TK
 | .bool=>.bl
 | .pointer _=>.pt
 | .int k=>.int k
 | .string=>.str
 | .struct fs=>.st (fs.toList.map fun f=>(f.offset,f.type))
 | .array n e=>.arr n e
 | .slice e=>.sli e
 | .map k e=>.mp k e
 | _=>.sc
def methB (P:Program) (t:Nat) (n:String) (f:Nat):Bool:=(match P.info? t with
 | some i=>match i.methods.find? (·.name == n) with
   | some m=>m.path.isEmpty && (match m.func with
     | some (g,false)=>Nat.beq g f
     | _=>false)
   | none=>false
 | none=>false) && match P.underlying t with
 | some (.struct _)=>true
 | _=>false
def TFact (P:Program) (t:Nat) (x:TI):Prop :=
 (P.info? t).map (fun i=>(i.size,i.bytes,i.zero.map (·.cells.toList)))=some (x.size,x.bytes,some x.zero)∧(P.underlying t).map kindOf=some x.k∧(!x.cmp || cmpB P t x.size)=true∧(x.meth.all fun q=>methB P t q.1 q.2)=true
def TOk (P:Program) (ti:Nat→Option TI):Prop:=∀ t x,ti t=some x→TFact P t x
section
variable {P:Program} {t:Nat} {x:TI}
theorem TFact.info (h:TFact P t x):∃ i z,P.info? t=some i∧i.size=x.size∧i.bytes=x.bytes∧i.zero=some z∧z.cells.toList=x.zero:=by
 obtain ⟨h,_⟩:=h
 cases hi:P.info? t with
 | none=>simp [hi] at h
 | some i =>
   simp only [hi,Option.map_some,Option.some.injEq,Prod.mk.injEq,Option.map_eq_some_iff] at h
   obtain ⟨h1,h2,z,h3,h4⟩:=h
   exact ⟨i,z,rfl,h1,h2,h3,h4⟩
theorem TFact.und (h:TFact P t x):∃ d,P.underlying t=some d∧kindOf d=x.k:=by
 obtain ⟨_,h,_⟩:=h
 simpa [Option.map_eq_some_iff] using h
theorem run_und (h:TFact P t x) (w:World):∃ d,kindOf d=x.k∧(underlying t).run P w=.ok d w:=by
 obtain ⟨d,h1,h2⟩:=h.und
 exact ⟨d,h2,run_underlying h1 w⟩
theorem run_undA (h:TFact P t x):∃ d,kindOf d=x.k∧∀ w,(underlying t).run P w=.ok d w:=by
 obtain ⟨d,h1,h2⟩:=h.und
 exact ⟨d,h2,run_underlying h1⟩
theorem run_size (h:TFact P t x) (w:World):(sizeOf t).run P w=.ok x.size w:=by
 obtain ⟨i,z,h1,h2,_⟩:=h.info
 simp [sizeOf,typeInfo,h1,h2]
theorem run_tinfo (h:TFact P t x) (w:World):∃ i,i.bytes=x.bytes∧(typeInfo t).run P w=.ok i w:=by
 obtain ⟨i,z,h1,h2,h3,_⟩:=h.info
 exact ⟨i,h3,by simp [typeInfo,h1]⟩
theorem run_zero (h:TFact P t x) (w:World):∃ z,z.cells.toList=x.zero∧(zeroValue t).run P w=.ok z w:=by
 obtain ⟨i,z,h1,_,_,h2,h3⟩:=h.info
 exact ⟨z,h3,by simp [zeroValue,typeInfo,h1,h2]⟩
theorem run_agg (h:TFact P t x) (w:World):(isAgg t).run P w=.ok x.agg w:=by
 obtain ⟨d,h1,h2⟩:=h.und
 simp only [isAgg,Sem.run_bind,run_underlying h1,Result.andThen_ok]
 unfold TI.agg
 rw [← h2]
 cases d<;>simp [kindOf]
end
theorem add_lit (b o n:Nat):(⟨b,o,none⟩:Addr).add n=⟨b,o+n,none⟩:=Addr.add_lit b o n
theorem run_load_cells {P:Program} {t:Nat} {x:TI} (h:TFact P t x) {w:World} {b o:Nat} {l:List Cell} {A:Nat→Prop} {ρ:Rho} (hx:x.agg=true) (hl:l.length=x.size)
   (hc:∀ j y,l[j]? = some y→∃ z,w.cell? ⟨b,o+j,none⟩=some z∧y.At w A ρ z) :
   ∃ y,(loadVar t ⟨b,o,none⟩).run P w=.ok y w∧(A1.g l).At w A ρ y:=by
 have hz :∃ cs:List Value,All2 (fun p q=>p.2.At w A ρ q∧w.cell? ⟨b,o+p.1,none⟩=some q) ((List.range l.length).zip l) cs:=by
   have:∀ (n:Nat) (l:List Cell),(∀ j y,l[j]? = some y→∃ z,w.cell? ⟨b,o+(n+j),none⟩=some z∧y.At w A ρ z) →
       ∃ cs:List Value,cs.length=l.length∧(∀ j z,cs[j]? = some z→w.cell? ⟨b,o+(n+j),none⟩=some z)∧All2 (Cell.At w A ρ) l cs:=by
     intro n l
     induction l generalizing n with
     | nil=>exact fun _=>⟨[],rfl,by simp,trivial⟩
     | cons y l ih =>
       intro hh
       obtain ⟨z,hz1,hz2⟩:=hh 0 y (by simp)
       obtain ⟨cs,h1,h2,h3⟩:=ih (n+1) (fun j y' hy=>by
         have:=hh (j+1) y' (by simpa using hy)
         simpa [Nat.add_assoc,Nat.add_comm 1 j] using this)
       refine ⟨z ::cs,by simp [h1],?_,⟨hz2,h3⟩⟩
       intro j z' hj
       cases j with
       | zero=>simp at hj;subst hj;exact hz1
       | succ j =>
         have:=h2 j z' (by simpa using hj)
         simpa [Nat.add_assoc,Nat.add_comm 1 j] using this
   obtain ⟨cs,h1,h2,h3⟩:=this 0 l (by simpa using hc)
   refine ⟨cs,All2.of_get (by simp [h1]) ?_⟩
   intro i p q hp hq
   simp only [List.getElem?_zip_eq_some] at hp
   obtain ⟨hp1,hp2⟩:=hp
   have hi:p.1=i:=by
     have:=List.getElem?_eq_some_iff.1 hp1
     obtain ⟨_,h⟩:=this
     simpa using h.symm
   refine ⟨?_,?_⟩
   · obtain ⟨z,e1,e2⟩:=All2.get h3 hp2
     rw [hq] at e1;injection e1 with e1;subst e1;exact e2
   · rw [hi];simpa using h2 i q hq
 obtain ⟨cs,hcs⟩:=hz
 have hlen:cs.length=x.size:=by have:=hcs.length;simp at this;omega
 refine ⟨.agg cs.toArray,?_,cs.toArray,rfl,?_⟩
 · have hrun:(loadCells ⟨b,o,none⟩ cs.length).run P w=.ok cs.toArray w:=by
     refine run_loadCells_list (P:=P) w ⟨b,o,none⟩ cs ?_
     intro j v hj
     rw [add_lit]
     obtain ⟨p,hp,h1,h2⟩:=All2.get' hcs hj
     simp only [List.getElem?_zip_eq_some] at hp
     have hi:p.1=j:=by
       obtain ⟨_,h⟩:=List.getElem?_eq_some_iff.1 hp.1
       simpa using h.symm
     rw [← hi];exact h2
   simp [loadVar,run_agg h,hx,run_size h,← hlen,hrun]
 · show All2 _ l cs.toArray.toList
   refine All2.of_get (by have:=hcs.length;simp at this;simp;omega) ?_
   intro i y q hy hq
   have hq':cs[i]? = some q:=by simpa using hq
   obtain ⟨p,hp,h1,h2⟩:=All2.get' hcs hq'
   simp only [List.getElem?_zip_eq_some] at hp
   rw [hy] at hp
   obtain ⟨_,hp⟩:=hp
   injection hp with hp;subst hp;exact h1
theorem run_load_one {P:Program} {t:Nat} {x:TI} (h:TFact P t x) {w:World} {b o:Nat} {y:Cell} {A:Nat→Prop} {ρ:Rho} (hx:x.agg=false)
   {z:Value} (hc:w.cell? ⟨b,o,none⟩=some z) (hy:y.At w A ρ z) :
   ∃ y',(loadVar t ⟨b,o,none⟩).run P w=.ok y' w∧(A1.c y).At w A ρ y' :=
 ⟨z,by simp [loadVar,run_agg h,hx,hc],hy⟩
theorem cell_of_cells {w:World} {b o:Nat} {cs:Array Value} {e:TypeId} {fr:Nat × Nat} (h:w.heap[b]? = some (.cells cs e fr)):w.cell? ⟨b,o,none⟩=cs[o]?:=by
 simp [World.cell?,h]
def tab {α:Type}:Nat→Nat→(Nat→α)→List α
 | 0,_,_=>[]
 | n+1,j,f=>f j ::tab n (j+1) f
theorem tab_length {α:Type} {f:Nat→α}:∀ {n j:Nat},(tab n j f).length=n
 | 0,_=>rfl
 | n+1,j=>by simp [tab,tab_length (n:=n)]
theorem tab_get {α:Type} {f:Nat→α}:∀ {n j i:Nat} {y:α},(tab n j f)[i]? = some y→i < n∧y=f (j+i)
 | 0,_,_,_,h=>by simp [tab] at h
 | n+1,j,0,y,h=>by simp [tab] at h;exact ⟨by omega,by simp [h]⟩
 | n+1,j,i+1,y,h=>by
   simp only [tab,List.getElem?_cons_succ] at h
   obtain ⟨h1,h2⟩:=tab_get h
   exact ⟨by omega,by rw [h2];congr 1;omega⟩
def globV:Heap→Nat→Option Value
 | [],_=>none
 | (_,.glob g v) ::r,k=>bif Nat.beq g k then some v else globV r k
 | (_,.box _) ::r,k=>globV r k
 | (_,.row _ _ _) ::r,k=>globV r k
 | (_,.raw _) ::r,k=>globV r k
 | (_,.tbx _ _) ::r,k=>globV r k
theorem globV_mem:∀ {h:Heap} {k:Nat} {v:Value},globV h k=some v→∃ j,(j,.glob k v) ∈ h
 | [],k,v,e=>by cases e
 | (j,.glob g u) ::r,k,v,e=>by
   simp only [globV,cond_eq_ite] at e
   split at e
   · rename_i hb
     have hb:g=k:=by simpa using hb
     subst hb;injection e with e;subst e;exact ⟨j,by simp⟩
   · obtain ⟨j',h⟩:=globV_mem e;exact ⟨j',List.mem_cons_of_mem _ h⟩
 | (j,.box _) ::r,k,v,e=>by obtain ⟨j',h⟩:=globV_mem (h:=r) e;exact ⟨j',List.mem_cons_of_mem _ h⟩
 | (j,.row _ _ _) ::r,k,v,e=>by obtain ⟨j',h⟩:=globV_mem (h:=r) e;exact ⟨j',List.mem_cons_of_mem _ h⟩
 | (j,.raw _) ::r,k,v,e=>by obtain ⟨j',h⟩:=globV_mem (h:=r) e;exact ⟨j',List.mem_cons_of_mem _ h⟩
 | (j,.tbx _ _) ::r,k,v,e=>by obtain ⟨j',h⟩:=globV_mem (h:=r) e;exact ⟨j',List.mem_cons_of_mem _ h⟩
def globL (x:TI) (h:Heap):Value→Option (Prop × A1)
 | .pointer (some ⟨g,0,none⟩)=>bif x.agg then none else match globV h g with
   | some v=>some (True,.c (.t (.v v)))
   | none=>none
 | _=>none
def loadA (x:TI) (h:Heap):A1→Option (Prop × A1)
 | .c (.ptr k wd i j) =>
   match look k h with
   | some (.box l) =>
     bif x.agg then bif Nat.ble (i * wd+j+x.size) l.length then some (True,.g ((l.drop (i * wd+j)).take x.size)) else none
     else match l[i * wd+j]? with
       | some y=>some (True,.c y)
       | none=>none
   | some (.row wd' n f) =>
     bif Nat.beq wd wd' && Nat.ble (j+x.size) wd && Nat.ble 1 x.size then
       some (i < n,bif x.agg then .g (tab x.size j fun k=>f i k) else .c (f i j))
     else none
   | some (.tbx _ l)=>bif x.agg then none else match l[i * wd+j]? with
     | some y=>some (True,.c y)
     | none=>none
   | _=>none
 | .c (.tp wd f j) =>
   bif Nat.ble (j+x.size) wd && Nat.ble 1 x.size then some (True,bif x.agg then .g (tab x.size j fun k=>.t (f k)) else .c (.t (f j))) else none
 | .c (.t (.ptr wd f)) =>
   bif Nat.ble x.size wd && Nat.ble 1 x.size then some (True,bif x.agg then .g (tab x.size 0 fun k=>.t (f k)) else .c (.t (f 0))) else none
 | .c (.t (.v y))=>globL x h y
 | _=>none
theorem globL_sound {P:Program} {t:Nat} {x:TI} (ht:TFact P t x) {h:Heap} {w:World} {A:Nat→Prop} {ρ:Rho} (hh:HeapAt w A ρ h) {y:Value} {p:Prop} {r:A1} (he:globL x h y=some (p,r)) :
   ∃ g v,y=.pointer (some ⟨g,0,none⟩)∧x.agg=false∧r=.c (.t (.v v))∧plain v=true∧w.cell? ⟨g,0,none⟩=some v∧∃ k,(k,.glob g v) ∈ h:=by
 unfold globL at he
 split at he
 · rename_i g
   cases hx:x.agg with
   | true=>simp [hx] at he
   | false =>
     simp only [hx,cond_false] at he
     split at he
     · rename_i v hv
       simp only [Option.some.injEq,Prod.mk.injEq] at he
       obtain ⟨rfl,rfl⟩:=he
       obtain ⟨k,hk⟩:=globV_mem hv
       obtain ⟨b,m,_,⟨h1,h2,h3,_⟩,_⟩:=hh.objs _ hk trivial
       exact ⟨g,v,rfl,rfl,rfl,h3,h2,k,hk⟩
     · cases he
 · cases he
theorem loadA_sound {P:Program} {t:Nat} {x:TI} (ht:TFact P t x) {h:Heap} {w:World} {A:Nat→Prop} {ρ:Rho} (hh:HeapAt w A ρ h) {a:A1} {y:Value} (ha:a.At w A ρ y)
   {p:Prop} {r:A1} (he:loadA x h a=some (p,r)) (hp:p):∃ v,(Instr.loadAt t y).run P w=.ok v w∧r.At w A ρ v:=by
 have hsure:∀ (ad:Addr),(Instr.loadAt t (.pointer (some ad))).run P w=(loadVar t ad).run P w:=by
   intro ad;simp [Instr.loadAt,Instr.sureAddr]
 unfold loadA at he
 split at he
 · rename_i k wd i j
   obtain ⟨b,m,hk,rfl⟩:=ha
   rw [hsure]
   split at he
   · rename_i l hl
     obtain ⟨b',m',hk',hat,_,_⟩:=hh.objs _ (look_mem hl) trivial
     rw [hk] at hk';injection hk' with hk';injection hk' with e1 e2;subst e1;subst e2
     obtain ⟨cs,e,hc,hm,hall⟩:=hat
     cases hx:x.agg with
     | true =>
       simp only [hx,cond_true] at he
       cases hb:Nat.ble (i * wd+j+x.size) l.length with
       | false=>simp [hb] at he
       | true =>
         simp only [hb,cond_true,Option.some.injEq,Prod.mk.injEq] at he
         obtain ⟨rfl,rfl⟩:=he
         have hle:i * wd+j+x.size≤l.length:=by simpa [Nat.ble_eq] using hb
         refine run_load_cells ht hx (by simp;omega) ?_
         intro q y' hq
         rw [cell_of_cells hc]
         have hlt:q < x.size:=by
           have:=(List.getElem?_eq_some_iff.1 hq).1
           simp at this;omega
         have hq':l[i * wd+j+q]? = some y':=by
           rw [List.getElem?_take,if_pos hlt,List.getElem?_drop] at hq
           exact hq
         obtain ⟨z,h1,h2⟩:=All2.get hall hq'
         exact ⟨z,by simpa using h1,h2⟩
     | false =>
       simp only [hx,cond_false] at he
       split at he
       · rename_i y' hy'
         simp only [Option.some.injEq,Prod.mk.injEq] at he
         obtain ⟨rfl,rfl⟩:=he
         obtain ⟨z,h1,h2⟩:=All2.get hall hy'
         refine run_load_one ht hx (z:=z) ?_ h2
         rw [cell_of_cells hc]
         simpa using h1
       · cases he
   · rename_i wd' n f hl
     cases hb:(Nat.beq wd wd' && Nat.ble (j+x.size) wd && Nat.ble 1 x.size) with
     | false=>simp [hb] at he
     | true =>
       simp only [hb,cond_true,Option.some.injEq,Prod.mk.injEq] at he
       obtain ⟨rfl,rfl⟩:=he
       obtain ⟨b',m',hk',hat,_,_⟩:=hh.objs _ (look_mem hl) (by show n ≠ 0;omega)
       rw [hk] at hk';injection hk' with hk';injection hk' with e1 e2;subst e1;subst e2
       obtain ⟨cs,e,hc,hm,hnm,hall⟩:=hat
       simp only [Bool.and_eq_true,Nat.beq_eq_true_eq,Nat.ble_eq] at hb
       obtain ⟨⟨h1,h2⟩,h3⟩:=hb
       have h1:=Nat.eq_of_beq_eq_true h1;subst h1
       cases hx:x.agg with
       | true =>
         simp only [cond_true]
         refine run_load_cells ht hx tab_length ?_
         intro q y' hq
         obtain ⟨hq1,rfl⟩:=tab_get hq
         obtain ⟨z,h4,h5⟩:=hall i hp (j+q) (by omega)
         refine ⟨z,?_,h5⟩
         rw [cell_of_cells hc,Nat.add_assoc];exact h4
       | false =>
         simp only [cond_false]
         obtain ⟨z,h4,h5⟩:=hall i hp j (by omega)
         exact run_load_one ht hx (by rw [cell_of_cells hc];exact h4) h5
   · rename_i e l hl
     obtain ⟨b',m',hk',hat,_,_⟩:=hh.objs _ (look_mem hl) trivial
     rw [hk] at hk';injection hk' with hk';injection hk' with e1 e2;subst e1;subst e2
     obtain ⟨cs,hc,hm,hall⟩:=hat
     cases hx:x.agg with
     | true=>simp [hx] at he
     | false =>
       simp only [hx,cond_false] at he
       split at he
       · rename_i y' hy'
         simp only [Option.some.injEq,Prod.mk.injEq] at he
         obtain ⟨rfl,rfl⟩:=he
         obtain ⟨z,h1,h2⟩:=All2.get hall hy'
         refine run_load_one ht hx (z:=z) ?_ h2
         rw [cell_of_cells hc]
         simpa using h1
       · cases he
   · cases he
 · rename_i wd f j
   obtain ⟨b,o,rfl,hA,hall⟩:=ha
   rw [hsure]
   cases hb:(Nat.ble (j+x.size) wd && Nat.ble 1 x.size) with
   | false=>simp [hb] at he
   | true =>
     simp only [hb,cond_true,Option.some.injEq,Prod.mk.injEq] at he
     obtain ⟨rfl,rfl⟩:=he
     simp only [Bool.and_eq_true,Nat.ble_eq] at hb
     cases hx:x.agg with
     | true =>
       simp only [cond_true]
       refine run_load_cells ht hx tab_length ?_
       intro q y' hq
       obtain ⟨hq1,rfl⟩:=tab_get hq
       obtain ⟨z,h4,h5⟩:=hall (j+q) (by omega)
       exact ⟨z,by rw [Nat.add_assoc];exact h4,h5⟩
     | false =>
       simp only [cond_false]
       obtain ⟨z,h4,h5⟩:=hall j (by omega)
       exact run_load_one ht hx h4 h5
 · rename_i wd f
   obtain ⟨b,o,rfl,hA,hall⟩:=ha
   rw [hsure]
   cases hb:(Nat.ble x.size wd && Nat.ble 1 x.size) with
   | false=>simp [hb] at he
   | true =>
     simp only [hb,cond_true,Option.some.injEq,Prod.mk.injEq] at he
     obtain ⟨rfl,rfl⟩:=he
     simp only [Bool.and_eq_true,Nat.ble_eq] at hb
     cases hx:x.agg with
     | true =>
       simp only [cond_true]
       refine run_load_cells ht hx tab_length ?_
       intro q y' hq
       obtain ⟨hq1,rfl⟩:=tab_get hq
       obtain ⟨z,h4,h5⟩:=hall (0+q) (by omega)
       exact ⟨z,by simpa using h4,h5⟩
     | false =>
       simp only [cond_false]
       obtain ⟨z,h4,h5⟩:=hall 0 (by omega)
       exact run_load_one ht hx (by simpa using h4) h5
 · obtain ⟨rfl,_⟩:=ha
   obtain ⟨g,v,rfl,hx,rfl,h3,h2,_⟩:=globL_sound ht hh he
   rw [hsure]
   exact run_load_one ht hx h2 (show (TV.v v).At w A v from ⟨rfl,h3⟩)
 · cases he
def stc:Nat→List Cell→List Cell→List Cell
 | _,[],l=>l
 | _,_,[]=>[]
 | 0,v ::vs,_ ::l=>v ::stc 0 vs l
 | j+1,vs,x ::l=>x ::stc j vs l
def rowSet (f:Nat→Nat→Cell) (i j:Nat) (vs:List Cell):Nat→Nat→Cell :=
 fun i' j'=>if i'=i∧j≤j'∧j' < j+vs.length then vs.getD (j' - j) (f i' j') else f i' j'
def storeA (x:TI) (h:Heap) (v:A1):A1→Option (Prop × Heap)
 | .c (.ptr k wd i j) =>
   bif Nat.beq v.cells.length x.size then
     match look k h with
     | some (.box l)=>bif Nat.ble (i * wd+j+x.size) l.length then some (True,upd k (.box (stc (i * wd+j) v.cells l)) h) else none
     | some (.row wd' n f)=>bif Nat.beq wd wd' && Nat.ble (j+x.size) wd then some (i < n,upd k (.row wd n (rowSet f i j v.cells)) h) else none
     | _=>none
   else none
 | _=>none
theorem stc_eq:∀ {j:Nat} {vs l:List Cell},j+vs.length≤l.length→stc j vs l=l.take j++vs++l.drop (j+vs.length)
 | j,[],l,_=>by cases j<;>simp [stc]
 | j,_ ::_,[],h=>by simp at h
 | 0,v ::vs,x ::l,h=>by
   have:=stc_eq (j:=0) (vs:=vs) (l:=l) (by simp at h ⊢;omega)
   simp [stc,this,Nat.add_comm]
 | j+1,v ::vs,x ::l,h=>by
   have:=stc_eq (j:=j) (vs:=v ::vs) (l:=l) (by simp at h ⊢;omega)
   simp only [stc,this,List.take_succ_cons,List.cons_append]
   congr 1
   rw [show j+1+(v ::vs).length=j+(v ::vs).length+1 from by omega,List.drop_succ_cons]
theorem oneCell_of_plain {v:Value} (h:plain v=true):v.oneCell'=true:=by cases v<;>simp_all [plain,Value.oneCell']
theorem setRow_get {w:World} {g:Nat} {cs cs':Array Value} {e:TypeId} {fr:Nat × Nat} (h:w.heap[g]? = some (.cells cs e fr)):(w.setRow g cs').heap[g]? = some (.cells cs' e fr):=by
 have hlt:g < w.heap.size:=(Array.getElem?_eq_some_iff.1 h).1
 simp [World.setRow,Array.getElem?_modify,h]
theorem setRow_ne {w:World} {g b:Nat} {cs':Array Value} (h:b ≠ g):(w.setRow g cs').heap[b]? = w.heap[b]?:=by
 simp only [World.setRow,Array.getElem?_modify]
 rw [if_neg (Ne.symm h)]
theorem run_storeVar_at {P:Program} {t:Nat} {x:TI} (ht:TFact P t x) {w:World} {b o:Nat} {cs:Array Value} {e:TypeId} {y:Value} (hc:w.heap[b]? = some (.cells cs e (0,0)))
   (hsz:y.cells.size=x.size) (hle:o+x.size≤cs.size) (h1:∀ v ∈ y.cells.toList,v.oneCell'=true) :
   (storeVar t ⟨b,o,none⟩ y).run P w=.ok () (w.setRow b (cs.toList.take o++y.cells.toList++cs.toList.drop (o+y.cells.size)).toArray):=by
 have hst:=run_storeCells_at P b o e y.cells.toList 0 cs w hc (by simp;omega) h1
 simp only [storeVar,Sem.run_bind,run_size ht,Result.andThen_ok]
 simp only [hsz,ne_eq,not_true_eq_false,if_false]
 simpa [hsz] using hst
theorem storeA_sound {P:Program} {t:Nat} {x:TI} (ht:TFact P t x) {c:Ctx} {s:St} {ac:Act} {w:World} {A:Nat→Prop} {ρ:Rho} (hr:Rep c s ac w A ρ)
   {a v:A1} {y z:Value} (ha:a.At w A ρ y) (hv:v.At w A ρ z) {p:Prop} {h':Heap} (he:storeA x s.h v a=some (p,h')) (hp:p) :
   ∃ w',(Instr.storeAt t y z).run P w=.ok () w'∧Rep c { s with h:=h' } ac w' A ρ:=by
 have hsure:∀ (ad:Addr),(Instr.storeAt t (.pointer (some ad)) z).run P w=(storeVar t ad z).run P w:=by
   intro ad;simp [Instr.storeAt,Instr.sureAddr]
 have hcells:=A1.At.cells hv
 have hone:∀ q ∈ z.cells.toList,q.oneCell'=true:=by
   intro q hq
   obtain ⟨i,hi,rfl⟩:=List.getElem_of_mem hq
   obtain ⟨y',_,h2⟩:=All2.get' hcells (List.getElem?_eq_getElem hi)
   exact oneCell_of_plain h2.plain
 unfold storeA at he
 split at he
 · rename_i k wd i j
   obtain ⟨b,m,hk,rfl⟩:=ha
   rw [hsure]
   cases hb:Nat.beq v.cells.length x.size with
   | false=>simp [hb] at he
   | true =>
     simp only [hb,cond_true] at he
     have hlen:v.cells.length=x.size:=by simpa using hb
     have hzs:z.cells.size=x.size:=by have:=hcells.length;simp at this;omega
     split at he
     · rename_i l hl
       obtain ⟨b',m',hk',hat,_,_⟩:=hr.heap.objs _ (look_mem hl) trivial
       rw [hk] at hk';injection hk' with hk';injection hk' with e1 e2;subst e1;subst e2
       obtain ⟨cs,e,hc,hm,hall⟩:=hat
       cases hb2:Nat.ble (i * wd+j+x.size) l.length with
       | false=>simp [hb2] at he
       | true =>
         simp only [hb2,cond_true,Option.some.injEq,Prod.mk.injEq] at he
         obtain ⟨rfl,rfl⟩:=he
         have hle:i * wd+j+x.size≤l.length:=by simpa [Nat.ble_eq] using hb2
         have hcs:l.length=cs.size:=by have:=hall.length;simpa using this
         generalize i * wd+j=j at hle ⊢
         refine ⟨_,run_storeVar_at ht hc hzs (by omega) hone,?_⟩
         refine hr.write hl trivial hk rfl rfl rfl (by simp) (fun b' hb'=>setRow_ne hb') ?_
         refine ⟨_,e,setRow_get hc,by simp;omega,?_⟩
         rw [stc_eq (by omega)]
         have hA:∀ b',A b'→(w.setRow b (cs.toList.take j++z.cells.toList++cs.toList.drop (j+z.cells.size)).toArray).heap[b']? = w.heap[b']?:=by
           intro b' hb'
           refine setRow_ne (fun e=>?_)
           obtain ⟨b2,m2,e2,_,hnA,_⟩:=hr.heap.objs _ (look_mem hl) trivial
           rw [hk] at e2;injection e2 with e2;injection e2 with e3 _;subst e3;exact hnA (e ▸ hb')
         refine All2.mono (fun _ _=>Cell.At.mono (fun _ h=>h) hA (fun _ _ h=>h)) ?_
         have hd:=All2.drop (j+z.cells.size) hall
         have htk:=All2.take j hall
         rw [hlen,← hzs]
         simpa using All2.append (All2.append htk hcells) hd
     · rename_i wd' n f hl
       cases hb2:(Nat.beq wd wd' && Nat.ble (j+x.size) wd) with
       | false=>simp [hb2] at he
       | true =>
         simp only [hb2,cond_true,Option.some.injEq,Prod.mk.injEq] at he
         obtain ⟨rfl,rfl⟩:=he
         simp only [Bool.and_eq_true,Nat.beq_eq_true_eq,Nat.ble_eq] at hb2
         obtain ⟨h1,h2⟩:=hb2
         have h1:=Nat.eq_of_beq_eq_true h1;subst h1
         have hre:(AObj.row wd n f).real:=by show n ≠ 0;omega
         obtain ⟨b',m',hk',hat,hnA,_⟩:=hr.heap.objs _ (look_mem hl) hre
         rw [hk] at hk';injection hk' with hk';injection hk' with e1 e2;subst e1;subst e2
         obtain ⟨cs,e,hc,hm,hnm,hall⟩:=hat
         have hin:i * wd+wd≤n * wd:=by
           have:(i+1) * wd≤n * wd:=Nat.mul_le_mul_right _ hp
           rw [Nat.add_mul] at this;simpa using this
         have hle:i * wd+j+x.size≤cs.size:=by omega
         refine ⟨_,run_storeVar_at ht hc hzs hle hone,?_⟩
         refine hr.write hl hre hk rfl rfl rfl (by simp) (fun b' hb'=>setRow_ne hb') ?_
         refine ⟨_,e,setRow_get hc,by simp;omega,by omega,?_⟩
         have hA:∀ b',A b'→(w.setRow b (cs.toList.take (i * wd+j)++z.cells.toList++cs.toList.drop (i * wd+j+z.cells.size)).toArray).heap[b']? = w.heap[b']? :=
           fun b' hb'=>setRow_ne (fun e=>hnA (e ▸ hb'))
         intro i' hi' j' hj'
         obtain ⟨z',hz',hf'⟩:=hall i' hi' j' hj'
         have hmono:∀ {y:Cell} {u:Value},y.At w A ρ u→y.At (w.setRow b (cs.toList.take (i * wd+j)++z.cells.toList++cs.toList.drop (i * wd+j+z.cells.size)).toArray) A ρ u :=
           fun h=>Cell.At.mono (fun _ h=>h) hA (fun _ _ h=>h) h
         have hget:((cs.toList.take (i * wd+j)++z.cells.toList++cs.toList.drop (i * wd+j+z.cells.size)).toArray)[i' * wd+j']? =
             if i' * wd+j' < i * wd+j then cs[i' * wd+j']? else if i' * wd+j' < i * wd+j+x.size then z.cells[i' * wd+j' - (i * wd+j)]? else cs[i' * wd+j']?:=by
           have l1:(cs.toList.take (i * wd+j)).length=i * wd+j:=by simp;omega
           have l2:(cs.toList.take (i * wd+j)++z.cells.toList).length=i * wd+j+x.size:=by simp;omega
           simp only [List.getElem?_toArray]
           rw [List.getElem?_append,l2]
           by_cases c1:i' * wd+j' < i * wd+j
           · rw [if_pos (by omega),List.getElem?_append,l1,if_pos c1,if_pos c1,List.getElem?_take,if_pos c1];simp
           · by_cases c2:i' * wd+j' < i * wd+j+x.size
             · rw [if_pos c2,List.getElem?_append,l1,if_neg c1,if_neg c1,if_pos c2];simp
             · rw [if_neg c2,if_neg c1,if_neg c2,List.getElem?_drop]
               have:i * wd+j+z.cells.size+(i' * wd+j' - (i * wd+j+x.size))=i' * wd+j':=by omega
               rw [this];simp
         rw [hget]
         by_cases hii:i'=i
         · subst hii
           by_cases c1:j' < j
           · rw [if_pos (by omega)]
             refine ⟨z',hz',?_⟩
             have:rowSet f i' j v.cells i' j'=f i' j':=by unfold rowSet;rw [if_neg (by omega)]
             rw [this];exact hmono hf'
           · by_cases c2:j' < j+x.size
             · rw [if_neg (by omega),if_pos (by omega)]
               have hlt:j' - j < v.cells.length:=by omega
               obtain ⟨u,hu1,hu2⟩:=All2.get hcells (List.getElem?_eq_getElem hlt)
               refine ⟨u,?_,?_⟩
               · rw [show i' * wd+j' - (i' * wd+j)=j' - j from by omega];simpa using hu1
               · have:rowSet f i' j v.cells i' j'=v.cells[j' - j]:=by
                   unfold rowSet;rw [if_pos ⟨rfl,by omega,by omega⟩];simp [List.getD,List.getElem?_eq_getElem hlt]
                 rw [this];exact hmono hu2
             · rw [if_neg (by omega),if_neg (by omega)]
               refine ⟨z',hz',?_⟩
               have:rowSet f i' j v.cells i' j'=f i' j':=by unfold rowSet;rw [if_neg (by omega)]
               rw [this];exact hmono hf'
         · have hne:¬ (i * wd+j≤i' * wd+j'∧i' * wd+j' < i * wd+j+x.size):=by
             rintro ⟨g1,g2⟩
             rcases Nat.lt_or_gt_of_ne hii with g|g
             · have:(i'+1) * wd≤i * wd:=Nat.mul_le_mul_right _ g
               rw [Nat.add_mul] at this;omega
             · have:(i+1) * wd≤i' * wd:=Nat.mul_le_mul_right _ g
               rw [Nat.add_mul] at this;omega
           refine ⟨z',?_,?_⟩
           · by_cases c1:i' * wd+j' < i * wd+j
             · rw [if_pos c1];exact hz'
             · rw [if_neg c1,if_neg (by omega)];exact hz'
           · have:rowSet f i j v.cells i' j'=f i' j':=by unfold rowSet;rw [if_neg (by omega)]
             rw [this];exact hmono hf'
     · cases he
 · cases he
end Go.Hw
namespace Go.Hw
def cst (v:Value):Option AV :=
 match v with
 | .agg cs=>bif cs.toList.all plain then some (.o (.g (cs.toList.map fun x=>.t (.v x)))) else none
 | .tuple _=>none
 | v=>some (.o (.c (.t (.v v))))
def evO (s:St):Operand→Option AV
 | .tmp k=>look k s.t
 | .const v=>cst v
 | .func f=>some (.o (.c (.t (.v (.func (.func f) #[] #[])))))
 | .global g=>some (.o (.c (.t (.v (.pointer (some ⟨g,0,none⟩))))))
theorem all2_consts {w:World} {A:Nat→Prop} {ρ:Rho}:∀ {l:List Value},l.all plain=true→All2 (Cell.At w A ρ) (l.map fun x=>.t (.v x)) l
 | [],_=>trivial
 | x ::l,h=>by
   simp only [List.all_cons,Bool.and_eq_true] at h
   exact ⟨⟨rfl,h.1⟩,all2_consts h.2⟩
theorem cst_sound {w:World} {A:Nat→Prop} {ρ:Rho} {v:Value} {av:AV} (h:cst v=some av):av.At w A ρ v:=by
 unfold cst at h
 split at h
 · rename_i cs
   cases hb:cs.toList.all plain with
   | false=>simp [hb] at h
   | true=>simp only [hb,cond_true,Option.some.injEq] at h;subst h;exact ⟨cs,rfl,all2_consts hb⟩
 · cases h
 · rename_i h1 h2
   injection h with h;subst h
   refine ⟨rfl,?_⟩
   cases v<;>simp_all [plain]
section
variable {c:Ctx} {s:St} {a:Act} {w:World} {A:Nat→Prop} {ρ:Rho}
theorem evO_sound (h:Rep c s a w A ρ) {x:Operand} {av:AV} (he:evO s x=some av):av.At w A ρ (a.eval x):=by
 cases x with
 | tmp k=>exact h.tmps k av he
 | const v=>exact cst_sound he
 | global g=>simp [evO] at he;subst he;exact ⟨rfl,rfl⟩
 | func f=>simp [evO] at he;subst he;exact ⟨rfl,rfl⟩
end
def Fits (k:IntKind) (n:Int):Prop:=k.min≤n∧n≤k.max
def numB (op:BinOp) (k:IntKind) (a b:Int):Option (Prop × Value) :=
 match op with
 | .add=>some (Fits k (a+b),.int k (a+b))
 | .sub=>some (Fits k (a - b),.int k (a - b))
 | .mul=>some (Fits k (a * b),.int k (a * b))
 | .quo=>some (0≤a∧0 < b∧Fits k (a / b),.int k (a / b))
 | .rem=>some (0≤a∧0 < b,.int k (a % b))
 | .eql=>some (True,.bool (decide (a=b)))
 | .neq=>some (True,.bool (!decide (a=b)))
 | .lss=>some (True,.bool (decide (a < b)))
 | .leq=>some (True,.bool (decide (a≤b)))
 | .gtr=>some (True,.bool (decide (b < a)))
 | .geq=>some (True,.bool (decide (b≤a)))
 | _=>none
def isNil:Cell→Option Bool
 | .t (.v (.pointer none))=>some true
 | .t (.ptr _ _)=>some false
 | .ptr _ _ _ _=>some false
 | .tp _ _ _=>some false
 | _=>none
def binA (op:BinOp):A1→A1→Option (Prop × Value)
 | .c (.t (.v (.int k a))),.c (.t (.v (.int k' b)))=>bif decide (k=k') then numB op k a b else none
 | .c (.t (.v (.bool a))),.c (.t (.v (.bool b)))=>match op with
   | .eql=>some (True,.bool (a == b))
   | .neq=>some (True,.bool (a != b))
   | _=>none
 | _,_=>none
theorem wrap_fits {k:IntKind} {n:Int} (h:Fits k n):k.wrap n=n:=by
 obtain ⟨h1,h2⟩:=h
 cases k<;>simp only [IntKind.min,IntKind.max,IntKind.wrap,IntKind.bits,IntKind.signed] at *<;>simp at *<;>omega
theorem binA_sound {P:Program} {w:World} {A:Nat→Prop} {ρ:Rho} {op:BinOp} {t:Nat} {x y:Operand} {a b:A1} {u v:Value} (ha:a.At w A ρ u) (hb:b.At w A ρ v)
   {p:Prop} {r:Value} (h:binA op a b=some (p,r)) (hp:p) (hbool:∀ q,u=.bool q→P.underlying t=some .bool) :
   (∀ w1,((do eqGuard op t x y u v;binOp op t u v):Sem Value).run P w1=.ok r w1)∧plain r=true:=by
 unfold binA at h
 split at h
 · rename_i k n k' m
   obtain ⟨rfl,_⟩:=ha
   obtain ⟨rfl,_⟩:=hb
   cases hd:decide (k=k') with
   | false=>simp [hd] at h
   | true =>
     have hk:k=k':=by simpa using hd
     subst hk
     simp only [hd,cond_true] at h
     unfold numB at h
     have hg:∀ w1,(eqGuard op t x y (.int k n) (.int k m)).run P w1=.ok () w1:=by
       intro w1;unfold eqGuard;cases op<;>simp
     simp only [Sem.run_bind,hg,Result.andThen_ok]
     cases op<;>simp only [Option.some.injEq,Prod.mk.injEq,reduceCtorEq] at h
     case add=>obtain ⟨rfl,rfl⟩:=h;simp [binOp,Op.intArith,wrap_fits hp,plain]
     case sub=>obtain ⟨rfl,rfl⟩:=h;simp [binOp,Op.intArith,wrap_fits hp,plain]
     case mul=>obtain ⟨rfl,rfl⟩:=h;simp [binOp,Op.intArith,wrap_fits hp,plain]
     case quo =>
       obtain ⟨rfl,rfl⟩:=h
       obtain ⟨h1,h2,h3⟩:=hp
       have hm:¬ m=0:=by omega
       have ht:n.tdiv m=n / m:=by rw [Int.tdiv_eq_ediv_of_nonneg h1]
       simp [binOp,Op.intDiv,hm,ht,wrap_fits h3,plain]
     case rem =>
       obtain ⟨rfl,rfl⟩:=h
       obtain ⟨h1,h2⟩:=hp
       have hm:¬ m=0:=by omega
       have ht:n.tmod m=n % m:=by rw [Int.tmod_eq_emod_of_nonneg h1]
       simp [binOp,Op.intDiv,hm,ht,plain]
     all_goals (obtain ⟨rfl,rfl⟩:=h<;>simp [binOp,Op.intCmp,plain]<;>rfl)
 · rename_i n m
   obtain ⟨rfl,_⟩:=ha
   obtain ⟨rfl,_⟩:=hb
   have hu:=hbool n rfl
   have hg:∀ w1,(eqGuard op t x y (.bool n) (.bool m)).run P w1=.ok () w1:=by
     intro w1;unfold eqGuard;cases op<;>simp
   have he:∀ w1,(Op.equal t (.bool n) (.bool m)).run P w1=.ok (n == m) w1:=fun w1=>run_equalIn_bool w1 9999 t n m hu
   split at h<;>simp only [Option.some.injEq,Prod.mk.injEq,reduceCtorEq] at h
   · obtain ⟨rfl,rfl⟩:=h
     simp [hg,binOp,he,plain]
   · obtain ⟨rfl,rfl⟩:=h
     simp [hg,binOp,he,plain,bne]
 · cases h
def fieldA (ti:Nat→Option TI) (t f:Nat):A1→Option A1
 | .c (.ptr h wd i j)=>match ti t with
   | some x=>match x.k with
     | .st fs=>match fs[f]? with
       | some (o,ft)=>match ti ft with
         | some y=>bif Nat.beq y.size 0 then none else some (.c (.ptr h wd i (j+o)))
         | none=>none
       | none=>none
     | _=>none
   | none=>none
 | .c (.tp wd g j)=>match ti t with
   | some x=>match x.k with
     | .st fs=>match fs[f]? with
       | some (o,ft)=>match ti ft with
         | some y=>bif Nat.beq y.size 0 then none else some (.c (.tp wd g (j+o)))
         | none=>none
       | none=>none
     | _=>none
   | none=>none
 | .c (.t (.ptr wd g))=>match ti t with
   | some x=>match x.k with
     | .st fs=>match fs[f]? with
       | some (o,ft)=>match ti ft with
         | some y=>bif Nat.beq y.size 0 then none else some (.c (.tp wd g o))
         | none=>none
       | none=>none
     | _=>none
   | none=>none
 | _=>none
theorem run_fieldAt {P:Program} {ti:Nat→Option TI} (hT:TOk P ti) {t f:Nat} {x y:TI} {fs:List (Nat × Nat)} {o ft:Nat} (h1:ti t=some x) (h2:x.k=.st fs) (h3:fs[f]? = some (o,ft)) (h4:ti ft=some y) (h5:y.size ≠ 0)
   (w:World) (b q:Nat):(Instr.fieldAt t (.pointer (some ⟨b,q,none⟩)) f).run P w=.ok (.pointer (some ⟨b,q+o,none⟩)) w:=by
 obtain ⟨d,hd,hu⟩:=run_und (hT _ _ h1) w
 rw [h2] at hd
 cases d<;>simp only [kindOf,reduceCtorEq] at hd
 rename_i fields
 injection hd with hd
 have hf:∃ fl,fields[f]? = some fl∧fl.offset=o∧fl.type=ft:=by
   rw [← hd,List.getElem?_map] at h3
   cases hx:fields.toList[f]? with
   | none=>simp [hx] at h3
   | some fl=>simp [hx] at h3;exact ⟨fl,by simpa using hx,h3.1,h3.2⟩
 obtain ⟨fl,e1,e2,e3⟩:=hf
 have hs:=run_size (hT _ _ h4) w
 simp [Instr.fieldAt,hu,e1,Instr.sureAddr,fieldPlace,e3,hs,h5,e2,add_lit]
theorem fieldA_sound {P:Program} {ti:Nat→Option TI} (hT:TOk P ti) {w:World} {A:Nat→Prop} {ρ:Rho} {t f:Nat} {a r:A1} {u:Value} (ha:a.At w A ρ u) (h:fieldA ti t f a=some r) :
   ∃ v,(∀ w1,(Instr.fieldAt t u f).run P w1=.ok v w1)∧r.At w A ρ v:=by
 unfold fieldA at h
 split at h
 · rename_i hh wd i j
   obtain ⟨b,m,hk,rfl⟩:=ha
   split at h
   · rename_i x hx
     split at h
     · rename_i fs hfs
       split at h
       · rename_i o ft hf
         split at h
         · rename_i y hy
           cases hb:Nat.beq y.size 0 with
           | true=>simp [hb] at h
           | false =>
             simp only [hb,cond_false,Option.some.injEq] at h;subst h
             have h5:y.size ≠ 0:=fun e=>by simp [e] at hb
             exact ⟨_,fun w1=>run_fieldAt hT hx hfs hf hy h5 w1 b _,b,m,hk,by rw [Nat.add_assoc]⟩
         · cases h
       · cases h
     · cases h
   · cases h
 · rename_i wd g j
   obtain ⟨b,q,rfl,hA,hall⟩:=ha
   split at h
   · rename_i x hx
     split at h
     · rename_i fs hfs
       split at h
       · rename_i o ft hf
         split at h
         · rename_i y hy
           cases hb:Nat.beq y.size 0 with
           | true=>simp [hb] at h
           | false =>
             simp only [hb,cond_false,Option.some.injEq] at h;subst h
             have h5:y.size ≠ 0:=fun e=>by simp [e] at hb
             exact ⟨_,fun w1=>run_fieldAt hT hx hfs hf hy h5 w1 b _,b,q,by rw [Nat.add_assoc],hA,hall⟩
         · cases h
       · cases h
     · cases h
   · cases h
 · rename_i wd g
   obtain ⟨b,q,rfl,hA,hall⟩:=ha
   split at h
   · rename_i x hx
     split at h
     · rename_i fs hfs
       split at h
       · rename_i o ft hf
         split at h
         · rename_i y hy
           cases hb:Nat.beq y.size 0 with
           | true=>simp [hb] at h
           | false =>
             simp only [hb,cond_false,Option.some.injEq] at h;subst h
             have h5:y.size ≠ 0:=fun e=>by simp [e] at hb
             exact ⟨_,fun w1=>run_fieldAt hT hx hfs hf hy h5 w1 b _,b,q,rfl,hA,hall⟩
         · cases h
       · cases h
     · cases h
   · cases h
 · cases h
def partA (x:TI) (l:List Cell) (o:Nat):Option A1 :=
 bif x.agg then (bif Nat.ble (o+x.size) l.length then some (.g ((l.drop o).take x.size)) else none)
 else match l[o]? with
   | some y=>some (.c y)
   | none=>none
theorem part_sound {P:Program} {t:Nat} {x:TI} (ht:TFact P t x) {w:World} {A:Nat→Prop} {ρ:Rho} {l:List Cell} {cs:Array Value} (hl:All2 (Cell.At w A ρ) l cs.toList) {o:Nat} {r:A1} (h:partA x l o=some r) :
   ∃ v,(∀ w1,(part t cs o).run P w1=.ok v w1)∧r.At w A ρ v:=by
 unfold partA at h
 cases hx:x.agg with
 | true =>
   simp only [hx,cond_true] at h
   cases hb:Nat.ble (o+x.size) l.length with
   | false=>simp [hb] at h
   | true =>
     simp only [hb,cond_true,Option.some.injEq] at h;subst h
     have hle:o+x.size≤l.length:=by simpa [Nat.ble_eq] using hb
     have hlen:=hl.length
     refine ⟨.agg (cs.extract o (o+x.size)),fun w1=>by simp [part,run_agg ht,hx,run_size ht],_,rfl,?_⟩
     have:=All2.take x.size (All2.drop o hl)
     simpa [List.extract_eq_drop_take] using this
 | false =>
   simp only [hx,cond_false] at h
   split at h
   · rename_i y hy
     injection h with h;subst h
     obtain ⟨z,h1,h2⟩:=All2.get hl hy
     have h1':cs[o]? = some z:=by simpa using h1
     exact ⟨z,fun w1=>by simp [part,run_agg ht,hx,h1'],h2⟩
   · cases h
def fldA (ti:Nat→Option TI) (t f:Nat):A1→Option A1
 | .g l=>match ti t with
   | some x=>match x.k with
     | .st fs=>match fs[f]? with
       | some (o,ft)=>match ti ft with
         | some y=>partA y l o
         | none=>none
       | none=>none
     | _=>none
   | none=>none
 | _=>none
theorem fldA_sound {P:Program} {ti:Nat→Option TI} (hT:TOk P ti) {w:World} {A:Nat→Prop} {ρ:Rho} {t f:Nat} {a r:A1} {u:Value} (ha:a.At w A ρ u) (h:fldA ti t f a=some r) :
   ∃ v,(∀ w1,(Instr.field t u f).run P w1=.ok v w1)∧r.At w A ρ v:=by
 unfold fldA at h
 split at h
 · rename_i l
   obtain ⟨cs,rfl,hl⟩:=ha
   split at h
   · rename_i x hx
     split at h
     · rename_i fs hfs
       split at h
       · rename_i o ft hf
         split at h
         · rename_i y hy
           obtain ⟨v,h1,h2⟩:=part_sound (hT _ _ hy) hl h
           obtain ⟨d,hd,hu⟩:=run_undA (hT _ _ hx)
           rw [hfs] at hd
           cases d<;>simp only [kindOf,reduceCtorEq] at hd
           rename_i fields
           injection hd with hd
           have hff:∃ fl,fields[f]? = some fl∧fl.offset=o∧fl.type=ft:=by
             rw [← hd,List.getElem?_map] at hf
             cases hx:fields.toList[f]? with
             | none=>simp [hx] at hf
             | some fl=>simp [hx] at hf;exact ⟨fl,by simpa using hx,hf.1,hf.2⟩
           obtain ⟨fl,e1,e2,e3⟩:=hff
           exact ⟨v,fun w1=>by simp [Instr.field,hu,e1,asAgg,e2,e3,h1],h2⟩
         · cases h
       · cases h
     · cases h
   · cases h
 · cases h
def indexA (ti:Nat→Option TI) (t:Nat) (x:A1) (i:A1):Option (Prop × A1) :=
 match ti t with
 | some tx=>match tx.k with
   | .sli e=>match ti e with
     | some ex=>match x,i with
       | .c (.sl h wd s n),.c (.t (.v (.int k i)))=>bif Nat.beq wd ex.size then some (0≤i∧i < n,.c (.ptr h wd (s+i.toNat) 0)) else none
       | .c (.t (.sl wd n f)),.c (.t (.v (.int k i)))=>bif Nat.beq wd ex.size then some (0≤i∧i < n,.c (.tp wd (f i.toNat) 0)) else none
       | _,_=>none
     | none=>none
   | .arr n e=>match ti e with
     | some ex=>match x,i with
       | .c (.ptr h wd i' j),.c (.t (.v (.int k i)))=>some (0≤i∧i < n,.c (.ptr h wd i' (j+i.toNat * ex.size)))
       | _,_=>none
     | none=>none
   | _=>none
 | none=>none
theorem indexA_sound {P:Program} {ti:Nat→Option TI} (hT:TOk P ti) {w:World} {A:Nat→Prop} {ρ:Rho} {t:Nat} {a i r:A1} {u v:Value} (ha:a.At w A ρ u) (hi:i.At w A ρ v)
   {p:Prop} (h:indexA ti t a i=some (p,r)) (hp:p):∃ z,(∀ w1,(Instr.indexAt t u v).run P w1=.ok z w1)∧r.At w A ρ z:=by
 unfold indexA at h
 split at h
 · rename_i tx htx
   obtain ⟨d,hd,hu⟩:=run_undA (hT _ _ htx)
   split at h
   · rename_i e hk
     rw [hk] at hd
     cases d<;>simp only [kindOf,reduceCtorEq] at hd
     rename_i e'
     injection hd with hd;subst hd
     split at h
     · rename_i ex hex
       have hs:=run_size (hT _ _ hex)
       split at h
       · rename_i hh wd s n k q
         obtain ⟨rfl,_⟩:=hi
         cases hb:Nat.beq wd ex.size with
         | false=>simp [hb] at h
         | true =>
           simp only [hb,cond_true,Option.some.injEq,Prod.mk.injEq] at h
           obtain ⟨rfl,rfl⟩:=h
           rcases ha with ⟨h0,_⟩|⟨_,b,m,cap,hk1,rfl,hcap⟩
           · omega
           have hwd:=Nat.eq_of_beq_eq_true hb
           refine ⟨.pointer (some ⟨b,s * wd+q.toNat * wd,none⟩),?_,b,m,hk1,?_⟩
           · intro w1;simp [Instr.indexAt,asIntOf,hu,hp,hs,add_lit,hwd]
           · congr 3;rw [Nat.add_mul];simp
       · rename_i wd n f k q
         obtain ⟨base,cap,rfl,hncap,hall⟩:=ha
         obtain ⟨rfl,_⟩:=hi
         cases hb:Nat.beq wd ex.size with
         | false=>simp [hb] at h
         | true =>
           simp only [hb,cond_true,Option.some.injEq,Prod.mk.injEq] at h
           obtain ⟨rfl,rfl⟩:=h
           have hwd:=Nat.eq_of_beq_eq_true hb
           obtain ⟨b,o,hbase,hA,hcell⟩:=hall q.toNat (by omega)
           subst hbase
           refine ⟨.pointer (some ⟨b,o+q.toNat * wd,none⟩),?_,b,o+q.toNat * wd,by simp,hA,?_⟩
           · intro w1;simp [Instr.indexAt,asIntOf,hu,hp,hs,add_lit,hwd]
           · intro j hj
             obtain ⟨z,hz,hf⟩:=hcell j hj
             exact ⟨z,by rw [Nat.add_assoc];exact hz,hf⟩
       · cases h
     · cases h
   · rename_i n e hk
     rw [hk] at hd
     cases d<;>simp only [kindOf,reduceCtorEq] at hd
     rename_i n' e'
     injection hd with hd1 hd2;subst hd1;subst hd2
     split at h
     · rename_i ex hex
       have hs:=run_size (hT _ _ hex)
       split at h
       · rename_i hh wd i' j k q
         obtain ⟨b,m,hk1,rfl⟩:=ha
         obtain ⟨rfl,_⟩:=hi
         simp only [Option.some.injEq,Prod.mk.injEq] at h
         obtain ⟨rfl,rfl⟩:=h
         refine ⟨.pointer (some ⟨b,i' * wd+j+q.toNat * ex.size,none⟩),?_,b,m,hk1,by rw [Nat.add_assoc]⟩
         intro w1;simp [Instr.indexAt,asIntOf,hu,hp,hs,add_lit,Instr.sureAddr]
       · cases h
     · cases h
   · cases h
 · cases h
end Go.Hw
namespace Go.Hw
def zcells (x:TI):Option (List Cell):=bif x.zero.all plain then some (x.zero.map fun v=>.t (.v v)) else none
theorem zcells_sound {x:TI} {l:List Cell} {w:World} {A:Nat→Prop} {ρ:Rho} (h:zcells x=some l):All2 (Cell.At w A ρ) l x.zero:=by
 unfold zcells at h
 cases hb:x.zero.all plain with
 | false=>simp [hb] at h
 | true=>simp only [hb,cond_true,Option.some.injEq] at h;subst h;exact all2_consts hb
section
variable {c:Ctx} {s:St} {a:Act} {w:World} {A:Nat→Prop} {ρ:Rho}
theorem Rep.new_cells (h:Rep c s a w A ρ) (e:TypeId) {l:List Cell} {cs:Array Value} (hl:All2 (Cell.At w A ρ) l cs.toList) (ao:AObj)
   (hao:∀ {w':World} {A':Nat→Prop} {ρ':Rho} {b:Nat},w'.heap[b]? = some (.cells cs e (0,0))→All2 (Cell.At w' A' ρ') l cs.toList→ao.At w' A' ρ' b cs.size) :
   Rep c { s with h:=(s.nx,ao) ::s.h,nx:=s.nx+1 } a { w with heap:=w.heap.push (.cells cs e) } A (ext ρ s.nx (w.heap.size,cs.size)):=by
 refine h.alloc (.cells cs e) ao cs.size ?_
 refine hao (by simp) ?_
 have hρ:∀ k b,ρ k=some b→ext ρ s.nx (w.heap.size,cs.size) k=some b:=by
   intro k b hk
   have:k ≠ s.nx:=by intro e;subst e;rw [h.new _ (Nat.le_refl _)] at hk;cases hk
   rw [ext_ne this];exact hk
 exact All2.mono (fun _ _=>Cell.At.mono (fun _ h=>h) (fun b hb=>push_get (h.imm b hb).1) hρ) hl
theorem Rep.new_box (h:Rep c s a w A ρ) (e:TypeId) {l:List Cell} {cs:Array Value} (hl:All2 (Cell.At w A ρ) l cs.toList) :
   Rep c { s with h:=(s.nx,.box l) ::s.h,nx:=s.nx+1 } a { w with heap:=w.heap.push (.cells cs e) } A (ext ρ s.nx (w.heap.size,cs.size)) :=
 h.new_cells e hl (.box l) fun h1 h2=>⟨cs,e,h1,rfl,h2⟩
end
def nix:Cell:=.t (.v (.bool false))
def dfl:Cell→Cell
 | .t (.v (.int k _))=>.t (.v (.int k 0))
 | .t (.v (.string _))=>.t (.v (.string ⟨#[]⟩))
 | _=>nix
def rowOf (wd:Nat) (l:List Cell):Nat→Nat→Cell:=fun i j=>if j < wd then (if i * wd+j < l.length then l.getD (i * wd+j) nix else dfl (l.getD j nix)) else nix
theorem row_of_list {wd n:Nat} {l:List Cell} {cs:Array Value} {e:TypeId} {w:World} {A:Nat→Prop} {ρ:Rho} {b:Nat} (hlen:n * wd≤l.length)
   (h1:w.heap[b]? = some (.cells cs e (0,0))) (h2:All2 (Cell.At w A ρ) l cs.toList):(AObj.row wd n (rowOf wd l)).At w A ρ b cs.size:=by
 have hl:l.length=cs.size:=by have:=h2.length;simpa using this
 refine ⟨cs,e,h1,rfl,by omega,fun i hi j hj=>?_⟩
 have hin:(i+1) * wd≤n * wd:=Nat.mul_le_mul_right _ hi
 rw [Nat.add_mul] at hin
 have hlt:i * wd+j < l.length:=by omega
 obtain ⟨z,hz1,hz2⟩:=All2.get h2 (List.getElem?_eq_getElem hlt)
 refine ⟨z,by simpa using hz1,?_⟩
 have:rowOf wd l i j=l[i * wd+j]:=by simp [rowOf,List.getD,List.getElem?_eq_getElem hlt,hj,hlt]
 rw [this];exact hz2
def fillA (place:Nat→Option (Nat × Nat)) (l:List Cell):List (Nat × A1)→Option (List Cell)
 | []=>some l
 | (i,v) ::rest=>match place i with
   | none=>none
   | some (off,size)=>bif Nat.beq v.cells.length size && Nat.ble (off+size) l.length then fillA place (stc off v.cells l) rest else none
theorem foldl_set (off:Nat):∀ (vs:List Value) (k:Nat) (cs:Array Value),off+k+vs.length≤cs.size →
   (vs.zipIdx k).foldl (fun cs x=>cs.setIfInBounds (off+x.2) x.1) cs=(cs.toList.take (off+k)++vs++cs.toList.drop (off+k+vs.length)).toArray
 | [],k,cs,_=>by simp
 | v ::vs,k,cs,h=>by
   simp only [List.zipIdx_cons,List.foldl_cons]
   rw [foldl_set off vs (k+1) _ (by simp at h ⊢;omega)]
   have e:=list_seg_step cs.toList (off+k) v vs (by simp at h ⊢;omega)
   congr 1
   simpa [Array.toList_setIfInBounds,Nat.add_assoc] using e
theorem stc_sound {w:World} {A:Nat→Prop} {ρ:Rho} {off:Nat} {vs l:List Cell} {us:List Value} {cs:Array Value} (hv:All2 (Cell.At w A ρ) vs us) (hl:All2 (Cell.At w A ρ) l cs.toList) (hle:off+vs.length≤l.length) :
   All2 (Cell.At w A ρ) (stc off vs l) (cs.toList.take off++us++cs.toList.drop (off+us.length)):=by
 rw [stc_eq hle]
 have:=hv.length
 rw [this]
 exact All2.append (All2.append (All2.take _ hl) hv) (All2.drop _ hl)
theorem fillA_sound {w:World} {A:Nat→Prop} {ρ:Rho} {place:Nat→Option (Nat × Nat)}:∀ {parts:List (Nat × A1)} {vals:List (Nat × Value)} {l l':List Cell} {cs:Array Value},
   All2 (fun p q=>p.1=q.1∧p.2.At w A ρ q.2) parts vals→All2 (Cell.At w A ρ) l cs.toList→fillA place l parts=some l' →
   ∃ cs',Instr.fill place cs vals=some cs'∧All2 (Cell.At w A ρ) l' cs'.toList
 | [],[],l,l',cs,_,hl,h=>by simp [fillA] at h;subst h;exact ⟨cs,rfl,hl⟩
 | [],_ ::_,_,_,_,x,_,_=>x.elim
 | _ ::_,[],_,_,_,x,_,_=>x.elim
 | (i, v) ::parts,(i',u) ::vals,l,l',cs,⟨⟨hi,hv⟩,hrest⟩,hl,h=>by
   simp only at hi;subst hi
   simp only [fillA] at h
   split at h
   · cases h
   · rename_i off size hp
     cases hb:(Nat.beq v.cells.length size && Nat.ble (off+size) l.length) with
     | false=>simp [hb] at h
     | true =>
       simp only [hb,cond_true] at h
       simp only [Bool.and_eq_true,Nat.ble_eq] at hb
       have h1:=Nat.eq_of_beq_eq_true hb.1
       have hv:v.At w A ρ u:=hv
       have h1:v.cells.length=size:=h1
       have hc:=A1.At.cells hv
       have hcl:=hc.length
       have hll:=hl.length
       simp at hcl hll
       have hs:=stc_sound hc hl (off:=off) (by omega)
       have hf:u.cells.zipIdx.foldl (fun cs x=>cs.setIfInBounds (off+x.2) x.1) cs=(cs.toList.take off++u.cells.toList++cs.toList.drop (off+u.cells.toList.length)).toArray:=by
         have:=foldl_set off u.cells.toList 0 cs (by simp;omega)
         rw [← Array.foldl_toList,Array.toList_zipIdx]
         simpa using this
       obtain ⟨cs',e1,e2⟩:=fillA_sound (cs:=(cs.toList.take off++u.cells.toList++cs.toList.drop (off+u.cells.toList.length)).toArray) hrest (by simpa using hs) h
       refine ⟨cs',?_,e2⟩
       simp only [Instr.fill,hp]
       rw [if_neg (by simp;omega)]
       rw [← e1];congr 1
def partsA (s:St):List (Nat × Operand)→Option (List (Nat × A1))
 | []=>some []
 | (i,x) ::r=>match evO s x with
   | some (.o v)=>match partsA s r with
     | some l=>some ((i,v) ::l)
     | none=>none
   | _=>none
theorem partsA_sound {c:Ctx} {s:St} {a:Act} {w:World} {A:Nat→Prop} {ρ:Rho} (h:Rep c s a w A ρ):∀ {l:List (Nat × Operand)} {r:List (Nat × A1)},partsA s l=some r →
   All2 (fun p q=>p.1=q.1∧p.2.At w A ρ q.2) r (l.map fun x=>(x.1,a.eval x.2))
 | [],r,he=>by simp [partsA] at he;subst he;trivial
 | (i, x) ::l,r,he=>by
   simp only [partsA] at he
   split at he
   · rename_i v hv
     split at he
     · rename_i l' hl
       injection he with he;subst he
       exact ⟨⟨rfl,evO_sound h hv⟩,partsA_sound h hl⟩
     · cases he
   · cases he
def sizes (ti:Nat→Option TI):List (Nat × Nat)→Option (List (Nat × Nat))
 | []=>some []
 | (o,t) ::r=>match ti t with
   | some x=>match sizes ti r with
     | some l=>some ((o,x.size) ::l)
     | none=>none
   | none=>none
def buildA (ti:Nat→Option TI) (t:Nat) (parts:List (Nat × A1)):Option A1 :=
 match ti t with
 | some x=>match zcells x with
   | some z=>match x.k with
     | .st fs=>match sizes ti fs with
       | some ps=>match fillA (fun i=>ps[i]?) z parts with
         | some l=>some (.g l)
         | none=>none
       | none=>none
     | .arr _ e=>match ti e with
       | some y=>match fillA (fun i=>some (i * y.size,y.size)) z parts with
         | some l=>some (.g l)
         | none=>none
       | none=>none
     | _=>none
   | none=>none
 | none=>none
theorem run_mapM_sizes {P:Program} {ti:Nat→Option TI} (hT:TOk P ti) (w:World):∀ (fields:List Field) (ps:List (Nat × Nat)),sizes ti (fields.map fun f=>(f.offset,f.type))=some ps →
   (fields.mapM (fun f=>do pure (f.offset,← sizeOf f.type)):Sem (List (Nat × Nat))).run P w=.ok ps w
 | [],ps,h=>by simp [sizes] at h;subst h;simp
 | f ::fs,ps,h=>by
   simp only [List.map_cons,sizes] at h
   split at h
   · rename_i x hx
     split at h
     · rename_i l hl
       injection h with h;subst h
       have ih:=run_mapM_sizes hT w fs l hl
       have hs:=run_size (hT _ _ hx) w
       simp only [List.mapM_cons,Sem.run_bind,hs,Result.andThen_ok,Sem.run_pure,ih]
     · cases h
   · cases h
theorem buildA_sound {P:Program} {ti:Nat→Option TI} (hT:TOk P ti) {w:World} {A:Nat→Prop} {ρ:Rho} {t:Nat} {parts:List (Nat × A1)} {vals:Array (Nat × Value)} {r:A1}
   (hp:All2 (fun p q=>p.1=q.1∧p.2.At w A ρ q.2) parts vals.toList) (h:buildA ti t parts=some r):∃ v,(Instr.build t vals).run P w=.ok v w∧r.At w A ρ v:=by
 unfold buildA at h
 split at h
 · rename_i x hx
   obtain ⟨z,hz1,hz2⟩:=run_zero (hT _ _ hx) w
   obtain ⟨d,hd,hu⟩:=run_und (hT _ _ hx) w
   split at h
   · rename_i zl hzl
     have hzs:All2 (Cell.At w A ρ) zl z.cells.toList:=by rw [hz1];exact zcells_sound hzl
     split at h
     · rename_i fs hk
       rw [hk] at hd
       cases d<;>simp only [kindOf,reduceCtorEq] at hd
       rename_i fields
       injection hd with hd
       split at h
       · rename_i ps hps
         split at h
         · rename_i l hl
           injection h with h;subst h
           obtain ⟨cs',e1,e2⟩:=fillA_sound hp hzs hl
           have hm:=run_mapM_sizes hT w fields.toList ps (by rw [hd];exact hps)
           have hm':(fields.mapM (fun f=>do pure (f.offset,← sizeOf f.type)):Sem (Array (Nat × Nat))).run P w=.ok ps.toArray w:=by
             rw [Array.mapM_eq_mapM_toList]
             simp only [Sem.run_map,hm,Result.andThen_ok]
           refine ⟨.agg cs',?_,cs',rfl,e2⟩
           have hpl:(fun i:Nat=>ps.toArray[i]?)=fun i:Nat=>ps[i]?:=by funext i;simp
           simp only [Instr.build,Sem.run_bind,hz2,hu,Result.andThen_ok]
           simp only [hm',Result.andThen_ok,hpl,e1,Sem.run_pure]
         · cases h
       · cases h
     · rename_i n e hk
       rw [hk] at hd
       cases d<;>simp only [kindOf,reduceCtorEq] at hd
       rename_i n' e'
       injection hd with hd1 hd2;subst hd1;subst hd2
       split at h
       · rename_i y hy
         split at h
         · rename_i l hl
           injection h with h;subst h
           obtain ⟨cs',e1,e2⟩:=fillA_sound hp hzs hl
           refine ⟨.agg cs',?_,cs',rfl,e2⟩
           simp only [Instr.build,Sem.run_bind,hz2,hu,Result.andThen_ok,run_size (hT _ _ hy),e1,Sem.run_pure]
         · cases h
       · cases h
     · cases h
   · cases h
 · cases h
def reps:Nat→List Cell→List Cell
 | 0,_=>[]
 | n+1,l=>l++reps n l
theorem reps_length {l:List Cell}:∀ {n:Nat},(reps n l).length=n * l.length
 | 0=>by simp [reps]
 | n+1=>by simp [reps,reps_length (n:=n),Nat.add_mul,Nat.add_comm]
theorem reps_get {l:List Cell} (hl:0 < l.length):∀ {n i:Nat},i < n * l.length→(reps n l)[i]? = l[i % l.length]?
 | 0,i,h=>by simp at h
 | n + 1,i,h=>by
   simp only [reps,List.getElem?_append]
   split
   · rename_i h1;rw [Nat.mod_eq_of_lt h1]
   · rename_i h1
     rw [reps_get hl (by rw [Nat.add_mul] at h;omega)]
     rw [Nat.mod_eq_sub_mod (a:=i) (by omega)]
theorem zeros_sound {w:World} {A:Nat→Prop} {ρ:Rho} {l:List Cell} {z:Array Value} (h:All2 (Cell.At w A ρ) l z.toList) (n:Nat) :
   All2 (Cell.At w A ρ) (reps n l) ((Array.range (n * l.length)).map (fun i=>z[i % z.size]!)).toList:=by
 have hlen:l.length=z.size:=by have:=h.length;simpa using this
 refine All2.of_get (by simp [reps_length]) ?_
 intro i y u hy hu
 have hi:i < n * l.length:=by
   have:=(List.getElem?_eq_some_iff.1 hy).1
   simpa [reps_length] using this
 have hpos:0 < l.length:=by
   rcases Nat.eq_zero_or_pos l.length with e|e
   · rw [e] at hi;simp at hi
   · exact e
 rw [reps_get hpos hi] at hy
 obtain ⟨v,h1,h2⟩:=All2.get h hy
 have h1':z[i % l.length]? = some v:=by simpa using h1
 have:u=v:=by
   have hm:i % z.size < z.size:=Nat.mod_lt _ (by omega)
   have e1:z[i % z.size]? = some v:=by rw [← hlen];exact h1'
   have e2:z[i % z.size]! = v:=by
     rw [getElem!_def,e1]
   have:(some u:Option Value)=some v:=by
     rw [← hu]
     simp [hi,e2]
   injection this
 subst this;exact h2
def litA (ti:Nat→Option TI) (t len:Nat) (parts:List (Nat × A1)):Option (Nat × List Cell) :=
 match ti t with
 | some x=>match x.k with
   | .sli e=>match ti e with
     | some y=>match zcells y with
       | some z=>bif Nat.beq z.length y.size && Nat.ble 1 y.size && Nat.ble (len * y.size) 65536 then
           match fillA (fun i=>some (i * y.size,y.size)) (reps len z) parts with
           | some l=>bif Nat.beq l.length (len * y.size) then some (y.size,l) else none
           | none=>none
         else none
       | none=>none
     | none=>none
   | _=>none
 | none=>none
def litObj (wd len:Nat) (l:List Cell):AObj:=bif Nat.beq wd 13 then .box l else .row wd len (rowOf wd l)
theorem litA_sound {P:Program} {ti:Nat→Option TI} (hT:TOk P ti) {c:Ctx} {s:St} {a:Act} {w:World} {A:Nat→Prop} {ρ:Rho} (hr:Rep c s a w A ρ) {t len wd:Nat} {parts:List (Nat × A1)} {vals:Array (Nat × Value)} {l:List Cell}
   (hp:All2 (fun p q=>p.1=q.1∧p.2.At w A ρ q.2) parts vals.toList) (h:litA ti t len parts=some (wd,l)) :
   ∃ v w' ρ',(Instr.buildSlice t len vals).run P w=.ok v w'∧Rep c { s with h:=(s.nx,litObj wd len l) ::s.h,nx:=s.nx+1 } a w' A ρ'∧(Cell.sl s.nx wd 0 len).At w' A ρ' v:=by
 unfold litA at h
 split at h
 · rename_i x hx
   obtain ⟨d,hd,hu⟩:=run_und (hT _ _ hx) w
   split at h
   · rename_i e hk
     rw [hk] at hd
     cases d<;>simp only [kindOf,reduceCtorEq] at hd
     rename_i e'
     injection hd with hd;subst hd
     split at h
     · rename_i y hy
       obtain ⟨z,hz1,hz2⟩:=run_zero (hT _ _ hy) w
       have hs:=run_size (hT _ _ hy) w
       split at h
       · rename_i zl hzl
         have hzs:All2 (Cell.At w A ρ) zl z.cells.toList:=by rw [hz1];exact zcells_sound hzl
         cases hb:(Nat.beq zl.length y.size && Nat.ble 1 y.size && Nat.ble (len * y.size) 65536) with
         | false=>simp [hb] at h
         | true =>
           simp only [hb,cond_true] at h
           simp only [Bool.and_eq_true,Nat.ble_eq] at hb
           obtain ⟨⟨hb1,hb2⟩,hb3⟩:=hb
           have hb1:=Nat.eq_of_beq_eq_true hb1
           split at h
           · rename_i l' hl
             cases hb4:Nat.beq l'.length (len * y.size) with
             | false=>simp [hb4] at h
             | true =>
               simp only [hb4,cond_true,Option.some.injEq,Prod.mk.injEq] at h
               obtain ⟨rfl,rfl⟩:=h
               have hb4:=Nat.eq_of_beq_eq_true hb4
               have hz:=zeros_sound hzs len
               rw [hb1] at hz
               obtain ⟨cs',e1,e2⟩:=fillA_sound hp hz hl
               have hcs:cs'.size=len * y.size:=by have:=e2.length;simp at this;omega
               have hnew:=hr.new_cells e' (l:=l') (cs:=cs') e2 (litObj y.size len l') (fun h1 h2=>by
                 unfold litObj
                 cases hq:Nat.beq y.size 13 with
                 | true=>exact ⟨cs',e',h1,rfl,h2⟩
                 | false=>exact row_of_list (by omega) h1 h2)
               have hlenM:len≤9223372036854775807:=by
                 have h3:len * 1≤len * y.size:=Nat.mul_le_mul_left _ (by omega)
                 omega
               refine ⟨.slice (some ⟨w.heap.size,0,none⟩) len len,{ w with heap:=w.heap.push (.cells cs' e') },_,?_,hnew,by simpa using sl_full (s:=0) (wd:=y.size) ext_self (by simp;omega) hlenM⟩
               have h24:¬ len * y.size > 2 ^ 24:=by omega
               by_cases h0:len * y.size=0
               · have hz0:(Array.map (fun x=>(#[]:Array Value)[x % (#[]:Array Value).size]!) (Array.range (len * y.size)))=Array.map (fun x=>z.cells[x % z.cells.size]!) (Array.range (len * y.size)):=by
                   rw [h0];simp
                 simp only [Instr.buildSlice,Sem.run_bind,hu,Result.andThen_ok,hs]
                 rw [if_neg h24]
                 rw [h0] at hz0
                 rw [h0] at e1
                 simp only [h0,if_true,Sem.run_bind,Sem.run_pure,Result.andThen_ok,hz0,e1]
                 simp [newRow]
               · simp only [Instr.buildSlice,Sem.run_bind,hu,Result.andThen_ok,hs]
                 rw [if_neg h24]
                 simp only [h0,if_false,Sem.run_bind,Sem.run_pure,Result.andThen_ok,hz2,e1]
                 simp [newRow]
           · cases h
       · cases h
     · cases h
   · cases h
 · cases h
end Go.Hw
namespace Go.Hw
theorem flat_exists {R:Nat→Value→Prop}:∀ (N:Nat),(∀ q,q < N→∃ z,R q z)→∃ l:List Value,l.length=N∧∀ q z,l[q]? = some z→R q z
 | 0,_=>⟨[],rfl,by simp⟩
 | N + 1,h=>by
   obtain ⟨l,h1,h2⟩:=flat_exists N (fun q hq=>h q (by omega))
   obtain ⟨z,hz⟩:=h N (by omega)
   refine ⟨l++[z],by simp [h1],fun q y hq=>?_⟩
   rw [List.getElem?_append] at hq
   split at hq
   · exact h2 q y hq
   · rename_i hn
     have:q=N:=by
       have:=(List.getElem?_eq_some_iff.1 hq).1
       simp at this;omega
     subst this
     simp [h1] at hq;subst hq;exact hz
def elemsA (h:Heap):A1→Option (Prop × Nat × Nat × (Nat→Nat→Cell))
 | .c (.sl k wd s n)=>match look k h with
   | some (.row wd' m f)=>bif Nat.beq wd wd' then some (s+n≤m,wd,n,fun i j=>f (s+i) j) else none
   | _=>none
 | .c (.t (.sl wd n f))=>some (True,wd,n,fun i j=>.t (f i j))
 | _=>none
theorem cell_same {w w':World} (h:w'.heap=w.heap) (a:Addr):w'.cell? a=w.cell? a:=by simp [World.cell?,h]
theorem div_mod_lt {wd n q:Nat} (h0:0 < wd) (h:q < n * wd):q / wd < n∧q % wd < wd∧q / wd * wd+q % wd=q :=
 ⟨Nat.div_lt_of_lt_mul (by rw [Nat.mul_comm];exact h),Nat.mod_lt _ h0,by rw [Nat.mul_comm];exact Nat.div_add_mod q wd⟩
theorem elemsA_sound {P:Program} {h:Heap} {w:World} {A:Nat→Prop} {ρ:Rho} (hh:HeapAt w A ρ h) {a:A1} {y:Value} (ha:a.At w A ρ y) {p:Prop} {wd n:Nat} {f:Nat→Nat→Cell}
   (he:elemsA h a=some (p,wd,n,f)) (hp:p) (hwd:0 < wd) :
   ∃ b cap,y=.slice b n cap∧∃ l:List Value,l.length=n * wd∧(∀ w':World,w'.heap=w.heap→(Builtin.firstCells wd n y).run P w'=.ok l.toArray w')∧∀ q z,l[q]? = some z→(f (q / wd) (q % wd)).At w A ρ z:=by
 unfold elemsA at he
 split at he
 · rename_i k wd1 s n1
   split at he
   · rename_i wd' m' g hl
     cases hb:Nat.beq wd1 wd' with
     | false=>simp [hb] at he
     | true =>
       simp only [hb,cond_true,Option.some.injEq,Prod.mk.injEq] at he
       obtain ⟨rfl,rfl,rfl,rfl⟩:=he
       have e:=Nat.eq_of_beq_eq_true hb
       subst e
       rcases ha with ⟨rfl,b,rfl⟩|⟨h0,b,m,cap,hk,rfl,hcap⟩
       · exact ⟨b,0,rfl,[],by simp,by intro w' _;cases b<;>simp [Builtin.firstCells,loadCells,loadCellsFrom],by simp⟩
       obtain ⟨b',m'',hk',hat,_,_⟩:=hh.objs _ (look_mem hl) (by show m' ≠ 0;omega)
       rw [hk] at hk';injection hk' with hk';injection hk' with e1 e2;subst e1;subst e2
       obtain ⟨cs,e,hc,hm,hnm,hall⟩:=hat
       obtain ⟨l,hl1,hl2⟩:=flat_exists (R:=fun q z=>w.cell? ⟨b,s * wd1+q,none⟩=some z∧(g (s+q / wd1) (q % wd1)).At w A ρ z) (n1 * wd1) (by
         intro q hq
         obtain ⟨g1,g2,g3⟩:=div_mod_lt hwd hq
         obtain ⟨z,hz1,hz2⟩:=hall (s+q / wd1) (by omega) (q % wd1) g2
         refine ⟨z,?_,hz2⟩
         rw [cell_of_cells hc,← hz1,Nat.add_mul,Nat.add_assoc,g3])
       refine ⟨_,_,rfl,l,hl1,?_,fun q z hq=>(hl2 q z hq).2⟩
       intro w' hw'
       simp only [Builtin.firstCells]
       rw [← hl1]
       refine run_loadCells_list (P:=P) w' _ l ?_
       intro j v hj
       rw [add_lit,cell_same hw'];exact (hl2 j v hj).1
   · cases he
 · rename_i wd1 n1 g
   obtain ⟨base,cap,rfl,hncap,hall⟩:=ha
   simp only [Option.some.injEq,Prod.mk.injEq] at he
   obtain ⟨rfl,rfl,rfl,rfl⟩:=he
   cases base with
   | none =>
     have hn:n1=0:=by
       rcases Nat.eq_zero_or_pos n1 with e|e
       · exact e
       · obtain ⟨b,o,hb,_⟩:=hall 0 e;cases hb
     subst hn
     exact ⟨none,cap,rfl,[],by simp,by intro w' _;simp [Builtin.firstCells],by simp⟩
   | some ad =>
     obtain ⟨l,hl1,hl2⟩:=flat_exists (R:=fun q z=>w.cell? (ad.add q)=some z∧(g (q / wd1) (q % wd1)).At w A z) (n1 * wd1) (by
       intro q hq
       obtain ⟨g1,g2,g3⟩:=div_mod_lt hwd hq
       obtain ⟨b,o,hb,_,hcell⟩:=hall (q / wd1) g1
       obtain ⟨z,hz1,hz2⟩:=hcell (q % wd1) g2
       injection hb with hb;subst hb
       rw [g3] at hz1
       exact ⟨z,by rw [add_lit];exact hz1,hz2⟩)
     refine ⟨_,_,rfl,l,hl1,?_,fun q z hq=>(hl2 q z hq).2⟩
     intro w' hw'
     simp only [Builtin.firstCells]
     rw [← hl1]
     exact run_loadCells_list (P:=P) w' _ l (fun j v hj=>by rw [cell_same hw'];exact (hl2 j v hj).1)
 · cases he
def app (n:Nat) (f g:Nat→Nat→Cell):Nat→Nat→Cell:=fun i j=>if i < n then f i j else g (i - n) j
def appendA (ti :Nat→Option TI) (h:Heap) (t xt:Nat) (d x:A1):Option (Prop × Nat × Nat × (Nat→Nat→Cell) × Heap) :=
 match ti t,ti xt with
 | some tt,some tx=>match tt.k,tx.k with
   | .sli e,.sli _=>match ti e with
     | some te => bif Nat.ble 1 te.size && Nat.ble te.bytes 4096 && Nat.beq te.zero.length te.size then
       match elemsA h x with
       | some (px,wx,m,g)=>bif Nat.beq wx te.size then
         match d with
         | .c (.t (.v (.slice none 0 0)))=>some (px∧m≤1000000,te.size,m,app 0 g g,h)
         | .c (.sl k wd 0 n)=>match look k h with
           | some (.row wd' n' f)=>bif Nat.beq wd wd' && Nat.beq wd te.size then
               some (px∧n≤n'∧n+m≤1000000,te.size,n+m,app n f g,rem k h) else none
           | _=>none
         | _=>none
         else none
       | none=>none
       else none
     | none=>none
   | _,_=>none
 | _,_=>none
theorem nextcap_le {need old:Nat} (h:old≤need):Builtin.nextslicecap need old≤4 * need+4000:=by
 unfold Builtin.nextslicecap
 split
 · omega
 · split
   · omega
   · have:∀ r c,Builtin.growBy need r c≤max c (2 * need+1000):=by
       intro r
       induction r with
       | zero=>intro c;simp [Builtin.growBy];omega
       | succ r ih =>
         intro c
         simp only [Builtin.growBy]
         split
         · omega
         · have:=ih (c+(c+768) / 4);omega
     have:=this 4 old
     omega
theorem cut_le {need old e x:Nat} (h:need≤9223372036854775807):(Question.appendCap need old e).cut x≤9223372036854775807:=by
 have hlt:=Nat.mod_lt x (show 0 < 2 ^ 63 - need by omega)
 simp only [Question.cut]
 omega
theorem run_append {P:Program} {t xt e:Nat} {te:TI} (hte:TFact P e te) (h1:1≤te.size) (h2:te.bytes≤4096)
   (hu:P.underlying t=some (.slice e)) {e':Nat} (hx:P.underlying xt=some (.slice e')) {w:World} {base:Option Addr} {n cap m:Nat} {y:Value} {ln lx:List Value}
   (hlen:(Builtin.lenOf y).run P w=.ok m w) (hold:(Builtin.firstCells te.size n (.slice base n cap)).run P w=.ok ln.toArray w) (hnew:(Builtin.firstCells te.size m y).run P w=.ok lx.toArray w)
   (hold':(Builtin.firstCells te.size n (.slice base n cap)).run P w.drew=.ok ln.toArray w.drew) (hnew':(Builtin.firstCells te.size m y).run P w.drew=.ok lx.toArray w.drew)
   (hsm:n+m≤1000000) (tt:Nat) :
   (n+m≤cap→(∀ a,base=some a→∃ b o cs f,a=⟨b,o,none⟩∧w.heap[b]? = some (.cells cs f (0,0))∧o+n * te.size+lx.length≤cs.size∧(∀ v ∈ lx,v.oneCell'=true))→(base=none→lx=[]) →
     (Builtin.append_ #[t,xt] tt #[.slice base n cap,y]).run P w=.ok (.slice base (n+m) cap) (match base with
       | some a=>w.setRow a.block (match w.heap[a.block]? with|some (.cells cs _ _)=>(cs.toList.take (a.off+n * te.size)++lx++cs.toList.drop (a.off+n * te.size+lx.length)).toArray|_=>#[])
       | none=>w)) ∧
   (cap < n+m→∃ (newCap:Nat) (z:Value),(n+m≤newCap∧newCap≤9223372036854775807)∧z.cells.toList=te.zero ∧
     (Builtin.append_ #[t,xt] tt #[.slice base n cap,y]).run P w=.ok (.slice (some ⟨w.heap.size,0,none⟩) (n+m) newCap) (w.drew.alloc (.cells (ln.toArray++lx.toArray++Builtin.zeroCells z.cells (newCap - (n+m))) e))):=by
 have hs:∀ w,(sizeOf e).run P w=.ok te.size w:=run_size hte
 have hb:∀ w,∃ i,i.bytes=te.bytes∧(typeInfo e).run P w=.ok i w:=run_tinfo hte
 have hz:∀ w,∃ z,z.cells.toList=te.zero∧(zeroValue e).run P w=.ok z w:=run_zero hte
 obtain ⟨i,z,hi1,hi4,hi5,hi6,hi7⟩:=hte.info
 constructor
 · intro hle hcell hnone
   cases base with
   | none =>
     have:=hnone rfl;subst this
     simp [Builtin.append_,run_underlying hu,run_underlying hx,hs,hlen,hle,hnew]
   | some a =>
     obtain ⟨b,o,cs,f,rfl,hc,hcs,hone⟩:=hcell a rfl
     have hst:=run_storeCells_at P b (o+n * te.size) f lx 0 cs w hc (by simp;omega) hone
     simp only [Nat.add_zero] at hst
     simp [Builtin.append_,run_underlying hu,run_underlying hx,hs,hlen,hle,hnew,add_lit,hst,hc]
 · intro hlt
   have hnle:¬ n+m≤cap:=by omega
   have hcap:=nextcap_le (need:=n+m) (old:=cap) (by omega)
   have hbig:¬ Builtin.nextslicecap (n+m) cap * i.bytes > 2 ^ 48:=by
     have:Builtin.nextslicecap (n+m) cap * i.bytes≤(4 * (n+m)+4000) * 4096:=Nat.mul_le_mul hcap (by omega)
     have:(4 * (n+m)+4000) * 4096≤(4 * 1000000+4000) * 4096:=Nat.mul_le_mul_right _ (by omega)
     omega
   have hmax:¬ ((n+m:Nat):Int) > IntKind.i64.max:=by
     have:IntKind.i64.max=9223372036854775807:=by rfl
     rw [this];omega
   refine ⟨(Question.appendCap (n+m) cap e).cut (w.tape w.drawn (.appendCap (n+m) cap e)),z,⟨by simp only [Question.cut];omega,cut_le (by omega)⟩,hi7,?_⟩
   have hti:∀ w,(typeInfo e).run P w=.ok i w:=fun w=>by simp [typeInfo,hi1]
   have hzv:∀ w,(zeroValue e).run P w=.ok z w:=fun w=>by simp [zeroValue,typeInfo,hi1,hi6]
   simp only [Builtin.append_,List.getElem?_toArray,List.getElem?_cons_zero,List.getElem?_cons_succ,Sem.run_bind,run_underlying hu,run_underlying hx,Result.andThen_ok,hs,Sem.run_pure,Bool.false_eq_true,if_false,hlen,hnle,hti]
   simp only [hmax,false_and,if_false,hti,hbig,Sem.run_bind,Sem.run_pure,Result.andThen_ok,run_choose,Question.forced,Bool.false_eq_true,if_false,run_askRoom,World.drew_eq,hold',Bool.not_false,if_true,hnew',hzv,newRow,run_newObj,World.alloc_eq]
   rfl
theorem lenOf_slice {P:Program} {w:World} {b:Option Addr} {n cap:Nat}:(Builtin.lenOf (.slice b n cap)).run P w=.ok n w:=rfl
theorem app_cells {wd n m:Nat} {f g:Nat→Nat→Cell} {w:World} {A:Nat→Prop} {ρ:Rho} {ln lx:List Value} (hwd:0 < wd) (h1:ln.length=n * wd) (h2:lx.length=m * wd)
   (hf:∀ q z,ln[q]? = some z→(f (q / wd) (q % wd)).At w A ρ z) (hg:∀ q z,lx[q]? = some z→(g (q / wd) (q % wd)).At w A ρ z) :
   ∀ i,i < n+m→∀ j,j < wd→∃ z,(ln++lx)[i * wd+j]? = some z∧(app n f g i j).At w A ρ z:=by
 intro i hi j hj
 have hmod:∀ a,(a * wd+j) / wd=a∧(a * wd+j) % wd=j:=by
   intro a
   refine ⟨?_,?_⟩
   · rw [Nat.mul_comm,Nat.mul_add_div hwd,Nat.div_eq_of_lt hj,Nat.add_zero]
   · rw [Nat.mul_comm,Nat.mul_add_mod,Nat.mod_eq_of_lt hj]
 by_cases c:i < n
 · have hin:(i+1) * wd≤n * wd:=Nat.mul_le_mul_right _ c
   rw [Nat.add_mul] at hin
   have hlt:i * wd+j < ln.length:=by omega
   refine ⟨ln[i * wd+j],by rw [List.getElem?_append_left hlt,List.getElem?_eq_getElem hlt],?_⟩
   have:=hf (i * wd+j) _ (List.getElem?_eq_getElem hlt)
   rw [(hmod i).1,(hmod i).2] at this
   unfold app;rw [if_pos c];exact this
 · have hin:(i - n+1) * wd≤m * wd:=Nat.mul_le_mul_right _ (by omega)
   rw [Nat.add_mul] at hin
   have hsub:(i - n) * wd+n * wd=i * wd:=by rw [← Nat.add_mul];congr 1;omega
   have hlt:(i - n) * wd+j < lx.length:=by omega
   have he:i * wd+j - ln.length=(i - n) * wd+j:=by omega
   refine ⟨lx[(i - n) * wd+j],by rw [List.getElem?_append_right (by omega),he,List.getElem?_eq_getElem hlt],?_⟩
   have:=hg ((i - n) * wd+j) _ (List.getElem?_eq_getElem hlt)
   rw [(hmod (i - n)).1,(hmod (i - n)).2] at this
   unfold app;rw [if_neg c];exact this
theorem plain_all {w:World} {A:Nat→Prop} {ρ:Rho} {g:Nat→Cell} {l:List Value} (h:∀ q z,l[q]? = some z→(g q).At w A ρ z):∀ v ∈ l,v.oneCell'=true:=by
 intro v hv
 obtain ⟨i,hi,rfl⟩:=List.getElem_of_mem hv
 exact oneCell_of_plain (h i _ (List.getElem?_eq_getElem hi)).plain
theorem Rep.drew {c:Ctx} {s:St} {a:Act} {w:World} {A:Nat→Prop} {ρ:Rho} (h:Rep c s a w A ρ):Rep c s a w.drew A ρ :=
 { heap:=⟨fun x hx hxr=>by
     obtain ⟨b,m,h1,h2,h3,h4⟩:=h.heap.objs x hx hxr
     exact ⟨b,m,h1,AObj.At.mono (w:=w) (w':=w.drew) (fun _ h=>h) (fun _ _=>rfl) (fun _ _ h=>h) rfl h2,h3,h4⟩,h.heap.inj⟩
   tmps:=fun k v hk=>AV.At.mono (w:=w) (w':=w.drew) (fun _ h=>h) (fun _ _=>rfl) (fun _ _ h=>h) (h.tmps k v hk)
   nt:=h.nt,defers:=h.defers.mono (fun _ h=>h) (fun _ _=>rfl),os:=h.os,tape:=h.tape,output:=h.output,size:=h.size,frame:=h.frame,own:=h.own,imm:=h.imm,old:=h.old,new:=h.new,k0:=h.k0 }
theorem ext_le {c:Ctx} {s:St} {a:Act} {w:World} {A:Nat→Prop} {ρ:Rho} (hr:Rep c s a w A ρ) {p:Nat × Nat}:∀ k b,ρ k=some b→ext ρ s.nx p k=some b:=by
 intro k b hk
 have:k ≠ s.nx:=by intro e;subst e;rw [hr.new _ (Nat.le_refl _)] at hk;cases hk
 rw [ext_ne this];exact hk
theorem grown_row {P:Program} {c:Ctx} {s:St} {a:Act} {w:World} {A:Nat→Prop} {ρ:Rho} (hr:Rep c s a w A ρ) {wd n m newCap:Nat} {e:TypeId} {f g:Nat→Nat→Cell} {ln lx:List Value} {z:Array Value} (hwd:0 < wd)
   (hn1:ln.length=n * wd) (hl1:lx.length=m * wd) (hn3:∀ q z,ln[q]? = some z→(f (q / wd) (q % wd)).At w A ρ z) (hl3:∀ q z,lx[q]? = some z→(g (q / wd) (q % wd)).At w A ρ z)
   (hzs:z.size=wd) (hc1:n+m≤newCap) :
   (AObj.row wd (n+m) (app n f g)).At (w.drew.alloc (.cells (ln.toArray++lx.toArray++Builtin.zeroCells z (newCap - (n+m))) e)) A (ext ρ s.nx (w.heap.size,newCap * wd)) w.heap.size (newCap * wd):=by
 have hcsz:(ln.toArray++lx.toArray++Builtin.zeroCells z (newCap - (n+m))).size=newCap * wd:=by
   simp only [Builtin.zeroCells,hzs,Array.size_append,Array.size_map,Array.size_range,List.size_toArray,hl1,hn1]
   rw [← Nat.add_mul,← Nat.add_mul];congr 1;omega
 refine ⟨_,e,heap_alloc_new w.drew _,hcsz,Nat.mul_le_mul_right _ hc1,?_⟩
 intro i hi j hj
 obtain ⟨z',hz1,hz2⟩:=app_cells (n:=n) (m:=m) (f:=f) (g:=g) (w:=w) (A:=A) (ρ:=ρ) (ln:=ln) (lx:=lx) hwd hn1 hl1 hn3 hl3 i hi j hj
 refine ⟨z',?_,Cell.At.mono (w:=w) (fun _ h=>h) (fun b' hb'=>push_get (w:=w) (hr.imm b' hb').1) (ext_le hr) hz2⟩
 have hlt2:i * wd+j < (ln++lx).length:=(List.getElem?_eq_some_iff.1 hz1).1
 rw [Array.getElem?_append,if_pos (by simpa using hlt2)]
 simpa using hz1
theorem hand_alloc {c:Ctx} {s:St} {a:Act} {w:World} {A:Nat→Prop} {ρ:Rho} (hr:Rep c s a w A ρ) {k b m m':Nat} {ao ao':AObj} (hl:look k s.h=some ao) (hre:ao.real) (hk:ρ k=some (b,m)) (O:Obj)
   (hrow:ao'.At (w.drew.alloc O) A (ext ρ s.nx (w.heap.size,m')) w.heap.size m') :
   Rep c { s with h:=(s.nx,ao') ::rem k s.h,nx:=s.nx+1 } a (w.drew.alloc O) A (ext ρ s.nx (w.heap.size,m')) :=
 hr.hand (b':=w.heap.size) hl hre hk rfl rfl rfl (by simp) (fun x hx _=>push_get (w:=w) hx) (.inr ⟨Nat.le_refl _,by simp⟩) hrow
theorem hand_set {c:Ctx} {s:St} {a:Act} {w:World} {A:Nat→Prop} {ρ:Rho} (hr:Rep c s a w A ρ) {k b m:Nat} {ao ao':AObj} (hl:look k s.h=some ao) (hre:ao.real) (hk:ρ k=some (b,m)) (cs:Array Value)
   (hrow:ao'.At (w.setRow b cs) A (ext ρ s.nx (b,m)) b m) :
   Rep c { s with h:=(s.nx,ao') ::rem k s.h,nx:=s.nx+1 } a (w.setRow b cs) A (ext ρ s.nx (b,m)) :=
 hr.hand (b':=b) hl hre hk rfl rfl rfl (by simp) (fun x hx hne=>setRow_ne hne) (.inl rfl) hrow
theorem append_void {P:Program} {c:Ctx} {s:St} {a:Act} {w:World} {A:Nat→Prop} {ρ:Rho} (hr:Rep c s a w A ρ) {t xt e e2:Nat} {te:TI} (hte:TFact P e te) (hb1:1≤te.size) (hb2:te.bytes≤4096) (hb3:te.zero.length=te.size)
   (hu1:P.underlying t=some (.slice e)) (hu2:P.underlying xt=some (.slice e2)) {x:A1} {v:Value} (hx:x.At w A ρ v) {px:Prop} {m:Nat} {g f:Nat→Nat→Cell} (hel:elemsA s.h x=some (px,te.size,m,g)) (hp1:px) (hp3:m≤1000000) (tt:Nat)
   {ba:Option Addr} {H':Heap} (hH:H'.Sublist s.h) :
   ∃ y w' ρ',(Builtin.append_ #[t,xt] tt #[.slice ba 0 0,v]).run P w=.ok y w'∧Rep c { s with h:=(s.nx,.row te.size m (app 0 f g)) ::H',nx:=s.nx+1 } a w' A ρ'∧(Cell.sl s.nx te.size 0 m).At w' A ρ' y:=by
 obtain ⟨bx,cx,rfl,lx,hl1,hl2,hl3⟩:=elemsA_sound (P:=P) hr.heap hx hel hp1 (by omega)
 have hf0:∀ w,(Builtin.firstCells te.size 0 (.slice ba 0 0)).run P w=.ok #[] w:=by
   intro w;cases ba<;>simp [Builtin.firstCells,loadCells,loadCellsFrom]
 by_cases hm0:m=0
 · subst hm0
   have:lx=[]:=List.length_eq_zero_iff.1 (by simpa using hl1)
   subst this
   have hs:∀ w,(sizeOf e).run P w=.ok te.size w:=run_size hte
   refine ⟨.slice ba 0 0,w,ρ,?_,hr.void hH,.inl ⟨rfl,_,rfl⟩⟩
   have h2:=hl2 w rfl
   cases ba<;>simp [Builtin.append_,run_underlying hu1,run_underlying hu2,hs,lenOf_slice,h2,storeCells]
 have hrun:=(run_append hte hb1 hb2 hu1 hu2 (w:=w) (base:=ba) (n:=0) (cap:=0) (m:=m) (y:=.slice bx m cx) (ln:=[]) (lx:=lx) rfl (hf0 w) (hl2 w rfl) (hf0 w.drew) (hl2 w.drew rfl) (by omega) tt).2 (by omega)
 obtain ⟨newCap,z,⟨hc1,hcM⟩,hc2,hrun⟩:=hrun
 have hzs:z.cells.size=te.size:=by rw [← hb3,← hc2];simp
 have hrow:=grown_row (P:=P) hr (wd:=te.size) (n:=0) (m:=m) (newCap:=newCap) (e:=e) (f:=f) (g:=g) (ln:=[]) (lx:=lx) (z:=z.cells) (by omega) (by simp) hl1 (by simp) hl3 hzs hc1
 rw [Nat.zero_add] at hrow hrun hc1
 have hfin:=hr.drew.alloc (.cells (([]:List Value).toArray++lx.toArray++Builtin.zeroCells z.cells (newCap - m)) e) (.row te.size m (app 0 f g)) (newCap * te.size) hrow
 exact ⟨_,_,_,hrun,hfin.weaken (t':=s.t) (fun _ _ h=>h) (List.Sublist.cons_cons _ hH),.inr ⟨hm0,w.heap.size,newCap * te.size,newCap,ext_self,by rw [Nat.zero_mul],⟨hc1,hcM⟩,by rw [Nat.zero_add];exact Nat.le_refl _⟩⟩
theorem append_own {P:Program} {c:Ctx} {s:St} {a:Act} {w:World} {A:Nat→Prop} {ρ:Rho} (hr:Rep c s a w A ρ) {t xt e e2:Nat} {te:TI} (hte:TFact P e te) (hb1:1≤te.size) (hb2:te.bytes≤4096) (hb3:te.zero.length=te.size)
   (hu1:P.underlying t=some (.slice e)) (hu2:P.underlying xt=some (.slice e2)) {x:A1} {u v:Value} (hx:x.At w A ρ v) {px:Prop} {m:Nat} {g:Nat→Nat→Cell} (hel:elemsA s.h x=some (px,te.size,m,g)) (hp1:px)
   {k n n':Nat} {f:Nat→Nat→Cell} (hd:(Cell.sl k te.size 0 n).At w A ρ u) (hl:look k s.h=some (.row te.size n' f)) (hnn:n≤n') (hp3:n+m≤1000000) (tt:Nat) :
   ∃ y w' ρ',(Builtin.append_ #[t,xt] tt #[u,v]).run P w=.ok y w'∧Rep c { s with h:=(s.nx,.row te.size (n+m) (app n f g)) ::rem k s.h,nx:=s.nx+1 } a w' A ρ'∧(Cell.sl s.nx te.size 0 (n+m)).At w' A ρ' y:=by
 rcases hd with ⟨rfl,ba,rfl⟩|⟨hn0,b,mm,cap,hk,rfl,hcap1,hcap2⟩
 · rw [Nat.zero_add] at *
   exact append_void hr hte hb1 hb2 hb3 hu1 hu2 hx hel hp1 hp3 tt rem_sub
 have hre:(AObj.row te.size n' f).real:=by show n' ≠ 0;omega
 obtain ⟨bx,cx,rfl,lx,hl1,hl2,hl3⟩:=elemsA_sound (P:=P) hr.heap hx hel hp1 (by omega)
 obtain ⟨bd,cd,ed,ln,hn1,hn2,hn3⟩:=elemsA_sound (P:=P) (a:=.c (.sl k te.size 0 n)) hr.heap (.inr ⟨hn0,b,mm,cap,hk,rfl,hcap1,hcap2⟩) (p:=0+n≤n') (wd:=te.size) (n:=n) (f:=fun i j=>f (0+i) j) (by simp [elemsA,hl]) (by omega) (by omega)
 injection ed with ed1 ed2 ed3;subst ed1;subst ed3
 have hn3:∀ q z,ln[q]? = some z→(f (q / te.size) (q % te.size)).At w A ρ z:=fun q z hq=>by simpa using hn3 q z hq
 obtain ⟨b',m',hk',hat,hnA,hlt⟩:=hr.heap.objs _ (look_mem hl) hre
 rw [hk] at hk';injection hk' with hk';injection hk' with e1 e2;subst e1;subst e2
 obtain ⟨cs,ee,hc,hm,hnm,hall⟩:=hat
 have hcap2:cap * te.size≤mm:=by simpa using hcap2
 rw [Nat.zero_mul] at hn2
 rw [Nat.zero_mul]
 have hrun:=run_append hte hb1 hb2 hu1 hu2 (w:=w) (base:=some ⟨b,0,none⟩) (n:=n) (cap:=cap) (m:=m) (y:=.slice bx m cx) (ln:=ln) (lx:=lx) rfl (hn2 w rfl) (hl2 w rfl) (hn2 w.drew rfl) (hl2 w.drew rfl) hp3 tt
 by_cases hle:n+m≤cap
 · have hsz:(n+m) * te.size≤cap * te.size:=Nat.mul_le_mul_right _ hle
   rw [Nat.add_mul] at hsz
   have h1:=hrun.1 hle (by
     rintro a' ha'
     injection ha' with ha';subst ha'
     exact ⟨b,_,cs,ee,rfl,hc,by simp;omega,plain_all hl3⟩) (by intro h;cases h)
   simp only [hc,Nat.zero_add] at h1
   have hlen:(cs.toList.take (n * te.size)++lx++cs.toList.drop (n * te.size+lx.length)).length=cs.size:=by simp;omega
   have hrow:(AObj.row te.size (n+m) (app n f g)).At (w.setRow b (cs.toList.take (n * te.size)++lx++cs.toList.drop (n * te.size+lx.length)).toArray) A (ext ρ s.nx (b,mm)) b mm:=by
     refine ⟨_,ee,setRow_get hc,by simpa using hlen.trans hm,by rw [Nat.add_mul];omega,?_⟩
     intro i hi j hj
     obtain ⟨z',hz1,hz2⟩:=app_cells (n:=n) (m:=m) (f:=f) (g:=g) (w:=w) (A:=A) (ρ:=ρ) (ln:=ln) (lx:=lx) (by omega) hn1 hl1 hn3 hl3 i hi j hj
     refine ⟨z',?_,Cell.At.mono (w:=w) (fun _ h=>h) (fun b' hb'=>setRow_ne (fun e=>by subst e;exact hnA hb')) (ext_le hr) hz2⟩
     have hln:ln=cs.toList.take (n * te.size):=by
       have e1:=hn2 w rfl
       simp only [Builtin.firstCells] at e1
       have e2:=run_loadCells_list (P:=P) w ⟨b,0,none⟩ (cs.toList.take (n * te.size)) (by
         intro j v hj
         rw [add_lit,cell_of_cells hc,Nat.zero_add]
         rw [List.getElem?_take] at hj
         split at hj
         · simpa using hj
         · cases hj)
       have hlt:(cs.toList.take (n * te.size)).length=n * te.size:=by simp;omega
       rw [hlt] at e2
       rw [e1] at e2
       injection e2 with e2 _
       simpa using e2
     rw [hln] at hz1
     have hlt2:i * te.size+j < (cs.toList.take (n * te.size)++lx).length:=(List.getElem?_eq_some_iff.1 hz1).1
     simp only [List.getElem?_toArray]
     rw [List.getElem?_append_left hlt2];exact hz1
   exact ⟨_,_,_,h1,hand_set hr hl hre hk _ hrow,.inr ⟨by omega,b,mm,cap,ext_self,by rw [Nat.zero_mul],⟨hle,hcap1.2⟩,by rw [Nat.zero_add];exact hcap2⟩⟩
 · obtain ⟨newCap,z,⟨hc1,hcM⟩,hc2,h1⟩:=hrun.2 (by omega)
   have hzs:z.cells.size=te.size:=by rw [← hb3,← hc2];simp
   have hrow:=grown_row (P:=P) hr (wd:=te.size) (n:=n) (m:=m) (newCap:=newCap) (e:=e) (f:=f) (g:=g) (ln:=ln) (lx:=lx) (z:=z.cells) (by omega) hn1 hl1 hn3 hl3 hzs hc1
   exact ⟨_,_,_,h1,hand_alloc hr hl hre hk _ hrow,.inr ⟨by omega,w.heap.size,newCap * te.size,newCap,ext_self,by rw [Nat.zero_mul],⟨hc1,hcM⟩,by rw [Nat.zero_add];exact Nat.le_refl _⟩⟩
theorem appendA_sound {P:Program} {ti:Nat→Option TI} (hT:TOk P ti) {c:Ctx} {s:St} {a:Act} {w:World} {A:Nat→Prop} {ρ:Rho} (hr:Rep c s a w A ρ) {t xt:Nat} {d x:A1} {u v:Value}
   (hd:d.At w A ρ u) (hx:x.At w A ρ v) {p:Prop} {wd n:Nat} {f:Nat→Nat→Cell} {H':Heap} (he:appendA ti s.h t xt d x=some (p,wd,n,f,H')) (hp:p) (tt:Nat) :
   ∃ y w' ρ',(Builtin.append_ #[t,xt] tt #[u,v]).run P w=.ok y w'∧Rep c { s with h:=(s.nx,.row wd n f) ::H',nx:=s.nx+1 } a w' A ρ'∧(Cell.sl s.nx wd 0 n).At w' A ρ' y:=by
 unfold appendA at he
 split at he
 · rename_i t1 t2 ht1 ht2
   split at he
   · rename_i e e2 hk1 hk2
     obtain ⟨d1,hu1,hd1⟩:=(hT _ _ ht1).und
     obtain ⟨d2,hu2,hd2⟩:=(hT _ _ ht2).und
     rw [hk1] at hd1;rw [hk2] at hd2
     cases d1<;>simp only [kindOf,reduceCtorEq] at hd1
     cases d2<;>simp only [kindOf,reduceCtorEq] at hd2
     rename_i e' e2'
     injection hd1 with hd1;subst hd1
     injection hd2 with hd2;subst hd2
     split at he
     · rename_i te hte
       cases hb:(Nat.ble 1 te.size && Nat.ble te.bytes 4096 && Nat.beq te.zero.length te.size) with
       | false=>simp [hb] at he
       | true =>
         simp only [hb,cond_true] at he
         simp only [Bool.and_eq_true,Nat.ble_eq] at hb
         obtain ⟨⟨hb1,hb2⟩,hb3⟩:=hb
         have hb3:=Nat.eq_of_beq_eq_true hb3
         split at he
         · rename_i px wx m g hel
           cases hbw:Nat.beq wx te.size with
           | false=>simp [hbw] at he
           | true =>
             simp only [hbw,cond_true] at he
             have hwx:=Nat.eq_of_beq_eq_true hbw
             subst hwx
             split at he
             · obtain ⟨rfl,_⟩:=hd
               simp only [Option.some.injEq,Prod.mk.injEq] at he
               obtain ⟨rfl,rfl,rfl,rfl,rfl⟩:=he
               obtain ⟨hp1,hp3⟩:=hp
               exact append_void hr (hT _ _ hte) hb1 hb2 hb3 hu1 hu2 hx hel hp1 hp3 tt (List.Sublist.refl _)
             · rename_i k wd' n'
               split at he
               · rename_i wd'' n'' f' hl
                 cases hbb:(Nat.beq wd' wd'' && Nat.beq wd' te.size) with
                 | false=>simp [hbb] at he
                 | true =>
                   simp only [hbb,cond_true,Option.some.injEq,Prod.mk.injEq] at he
                   obtain ⟨rfl,rfl,rfl,rfl,rfl⟩:=he
                   simp only [Bool.and_eq_true] at hbb
                   have hw1:=Nat.eq_of_beq_eq_true hbb.1
                   have hw2:=Nat.eq_of_beq_eq_true hbb.2
                   subst hw1;subst hw2
                   obtain ⟨hp1,hp2,hp3⟩:=hp
                   exact append_own hr (hT _ _ hte) hb1 hb2 hb3 hu1 hu2 hx hel hp1 hd hl hp2 hp3 tt
               · cases he
             · cases he
         · cases he
     · cases he
   · cases he
 · cases he
end Go.Hw
namespace Go.Hw
def lenA (ti:Nat→Option TI) (t:Nat) (x:A1):Option Value :=
 match ti t with
 | some tx=>match tx.k,x with
   | .sli _,.c (.t (.v (.slice none 0 0)))=>some (.int .i64 0)
   | .sli _,.c (.sl _ _ _ n)=>some (.int .i64 n)
   | .sli _,.c (.t (.sl _ n _))=>some (.int .i64 n)
   | .str,.c (.t (.v (.string s)))=>some (.int .i64 s.size)
   | _,_=>none
 | none=>none
theorem lenA_sound {P:Program} {ti:Nat→Option TI} (hT:TOk P ti) {w:World} {A:Nat→Prop} {ρ:Rho} {t:Nat} {x:A1} {u r:Value} (hx:x.At w A ρ u) (h:lenA ti t x=some r) (tt:Nat) :
   (∀ w1,(Builtin.len_ #[t] tt #[u]).run P w1=.ok r w1)∧plain r=true:=by
 unfold lenA at h
 split at h
 · rename_i tx htx
   obtain ⟨d,hd,hu⟩:=run_undA (hT _ _ htx)
   split at h
   · rename_i hk
     rw [hk] at hd
     cases d<;>simp only [kindOf,reduceCtorEq] at hd
     obtain ⟨rfl,_⟩:=hx
     injection h with h;subst h
     exact ⟨fun w1=>by simp [Builtin.len_,hu,goInt],rfl⟩
   · rename_i hk
     rw [hk] at hd
     cases d<;>simp only [kindOf,reduceCtorEq] at hd
     injection h with h;subst h
     rcases hx with ⟨rfl,a,rfl⟩|⟨_,b,m,cap,_,rfl,_⟩
     · exact ⟨fun w1=>by simp [Builtin.len_,hu,goInt],rfl⟩
     · exact ⟨fun w1=>by simp [Builtin.len_,hu,goInt],rfl⟩
   · rename_i hk
     rw [hk] at hd
     cases d<;>simp only [kindOf,reduceCtorEq] at hd
     obtain ⟨b,cap,rfl,_⟩:=hx
     injection h with h;subst h
     exact ⟨fun w1=>by simp [Builtin.len_,hu,goInt],rfl⟩
   · rename_i hk
     rw [hk] at hd
     cases d<;>simp only [kindOf,reduceCtorEq] at hd
     obtain ⟨rfl,_⟩:=hx
     injection h with h;subst h
     exact ⟨fun w1=>by simp [Builtin.len_,hu,goInt],rfl⟩
   · cases h
 · cases h
def makeA (ti :Nat→Option TI) (t:Nat) (l c:A1):Option (Prop × Nat × Nat × (Nat→Nat→Cell)) :=
 match ti t with
 | some tx=>match tx.k with
   | .sli e=>match ti e with
     | some te=>match l,c with
       | .c (.t (.v (.int _ n))),.c (.t (.v (.int _ m)))=>match zcells te with
         | some z=>bif Nat.beq z.length te.size && Nat.ble 1 te.size && Nat.ble te.bytes 4096 then
             some (0≤n∧n=m∧m≤1000000,te.size,n.toNat,fun _ j=>z.getD j (.t (.v (.bool false)))) else none
         | none=>none
       | _,_=>none
     | none=>none
   | _=>none
 | none=>none
theorem makeA_sound {P:Program} {ti:Nat→Option TI} (hT:TOk P ti) {c:Ctx} {s:St} {a:Act} {w:World} {A:Nat→Prop} {ρ:Rho} (hr:Rep c s a w A ρ) {t:Nat} {l cp:A1} {u v:Value}
   (hl:l.At w A ρ u) (hcp:cp.At w A ρ v) {p:Prop} {wd n:Nat} {f:Nat→Nat→Cell} (he:makeA ti t l cp=some (p,wd,n,f)) (hp:p) :
   ∃ y w' ρ',(Instr.makeSlice t u v).run P w=.ok y w'∧Rep c { s with h:=(s.nx,.row wd n f) ::s.h,nx:=s.nx+1 } a w' A ρ'∧(Cell.sl s.nx wd 0 n).At w' A ρ' y:=by
 unfold makeA at he
 split at he
 · rename_i tx htx
   obtain ⟨d,hd,hu⟩:=run_und (hT _ _ htx) w
   split at he
   · rename_i e hk
     rw [hk] at hd
     cases d<;>simp only [kindOf,reduceCtorEq] at hd
     rename_i e'
     injection hd with hd;subst hd
     split at he
     · rename_i te hte
       obtain ⟨i,z,hi1,hi2,hi3,hi4,hi5⟩:=(hT _ _ hte).info
       split at he
       · rename_i k1 q k2 q2
         obtain ⟨rfl,_⟩:=hl
         obtain ⟨rfl,_⟩:=hcp
         split at he
         · rename_i zl hzl
           cases hb:(Nat.beq zl.length te.size && Nat.ble 1 te.size && Nat.ble te.bytes 4096) with
           | false=>simp [hb] at he
           | true =>
             simp only [hb,cond_true,Option.some.injEq,Prod.mk.injEq] at he
             obtain ⟨rfl,rfl,rfl,rfl⟩:=he
             simp only [Bool.and_eq_true,Nat.ble_eq] at hb
             obtain ⟨⟨hb1,hb2⟩,hb3⟩:=hb
             have hb1:=Nat.eq_of_beq_eq_true hb1
             obtain ⟨hp1,rfl,hp3⟩:=hp
             have hp2:q≤q:=Int.le_refl _
             have hzs:All2 (Cell.At w A ρ) zl z.cells.toList:=by rw [hi5];exact zcells_sound hzl
             have hz:=zeros_sound hzs q.toNat
             rw [hb1] at hz
             have hsz:((Array.range (q.toNat * te.size)).map (fun i=>z.cells[i % z.cells.size]!)).size=q.toNat * te.size:=by simp
             have hnew:=hr.new_cells e' hz (.row te.size q.toNat (fun _ j=>zl.getD j (.t (.v (.bool false))))) (by
               intro w' A' ρ' b h1 h2
               have hmul:q.toNat * te.size≤q.toNat * te.size:=Nat.mul_le_mul_right _ (by omega)
               refine ⟨_,e',h1,rfl,by rw [hsz];exact hmul,fun i' hi' j hj=>?_⟩
               have hin:(i'+1) * te.size≤q.toNat * te.size:=Nat.mul_le_mul_right _ hi'
               rw [Nat.add_mul] at hin
               have hlt:i' * te.size+j < (reps q.toNat zl).length:=by rw [reps_length,hb1];omega
               obtain ⟨y,hy1,hy2⟩:=All2.get h2 (List.getElem?_eq_getElem hlt)
               refine ⟨y,by rw [← Array.getElem?_toList];exact hy1,?_⟩
               have hg:=reps_get (l:=zl) (by omega) (n:=q.toNat) (i:=i' * te.size+j) (by rw [hb1];omega)
               have hmod:(i' * te.size+j) % te.size=j:=by rw [Nat.mul_comm,Nat.mul_add_mod,Nat.mod_eq_of_lt hj]
               rw [hb1,hmod,List.getElem?_eq_getElem hlt] at hg
               have:zl.getD j (.t (.v (.bool false)))=(reps q.toNat zl)[i' * te.size+j]:=by
                 rw [List.getD_eq_getElem?_getD,← hg];rfl
               show Cell.At w' A' ρ' (zl.getD j _) y
               rw [this];exact hy2)
             have hw1:IntKind.i64.wrap q=q:=wrap_fits ⟨by simp [IntKind.min,IntKind.signed,IntKind.bits];omega,by simp [IntKind.max,IntKind.signed,IntKind.bits];omega⟩
             have hti:∀ w,(typeInfo e').run P w=.ok i w:=fun w=>by simp [typeInfo,hi1]
             have hzv:∀ w,(zeroValue e').run P w=.ok z w:=fun w=>by simp [zeroValue,typeInfo,hi1,hi4]
             have hsv:∀ w,(sizeOf e').run P w=.ok te.size w:=run_size (hT _ _ hte)
             have hbig:¬ ((decide (q < 0) || decide ((i.bytes:Int) * q > 2 ^ 48))=true ∨ q < 0 ∨ q > q):=by
               have:(i.bytes:Int) * q≤4096 * 1000000:=Int.mul_le_mul (by omega) hp3 (by omega) (by omega)
               simp;omega
             refine ⟨.slice (some ⟨w.heap.size,0,none⟩) q.toNat q.toNat,_,_,?_,hnew,by simpa using sl_full (s:=0) (wd:=te.size) ext_self (by simp) (by omega)⟩
             simp only [Instr.makeSlice,Sem.run_bind,hu,Result.andThen_ok,asInt,asIntOf,Sem.run_pure,hti,hw1]
             rw [if_neg (by simpa [or_assoc] using hbig)]
             simp only [Sem.run_bind,run_askRoom,Result.andThen_ok,hsv]
             by_cases h0:q.toNat * te.size=0
             · have e:(Array.range (q.toNat * te.size)).map (fun i=>(#[]:Array Value)[i % (#[]:Array Value).size]!)=(Array.range (q.toNat * te.size)).map (fun i=>z.cells[i % z.cells.size]!):=by rw [h0];simp
               rw [if_pos h0]
               simp only [Sem.run_bind,Sem.run_pure,Result.andThen_ok,newRow,run_newObj,e]
             · rw [if_neg h0]
               simp only [Sem.run_bind,Sem.run_pure,Result.andThen_ok,hzv,newRow,run_newObj]
         · cases he
       · cases he
     · cases he
   · cases he
 · cases he
def copyA (ti : Nat→Option TI) (h:Heap) (t:Nat) (d x:A1):Option (Prop × Value × Heap) :=
 match ti t with
 | some tx => match tx.k with
   | .sli e => match ti e with
     | some te => match elemsA h x with
       | some (px,wx,m,g)=>bif Nat.beq wx te.size && Nat.ble 1 te.size then
         match d with
         | .c (.sl k wd 0 n)=>match look k h with
           | some (.row wd' n' f)=>bif Nat.beq wd wd' && Nat.beq wd te.size then
               some (px∧n=n'∧m=n,.int .i64 n,upd k (.row wd n g) h) else none
           | _=>none
         | _=>none
         else none
       | none=>none
     | none=>none
   | _=>none
 | none=>none
theorem copyA_sound {P:Program} {ti:Nat→Option TI} (hT:TOk P ti) {c:Ctx} {s:St} {a:Act} {w:World} {A:Nat→Prop} {ρ:Rho} (hr:Rep c s a w A ρ) {t xt:Nat} {d x:A1} {u v:Value}
   (hd:d.At w A ρ u) (hx:x.At w A ρ v) {p:Prop} {r:Value} {H':Heap} (he:copyA ti s.h t d x=some (p,r,H')) (hp:p) (tt:Nat) :
   ∃ w',(Builtin.copy_ #[t,xt] tt #[u,v]).run P w=.ok r w'∧Rep c { s with h:=H' } a w' A ρ∧plain r=true:=by
 unfold copyA at he
 split at he
 · rename_i tx htx
   obtain ⟨dd,hdd,hu⟩:=run_und (hT _ _ htx) w
   split at he
   · rename_i e hk
     rw [hk] at hdd
     cases dd<;>simp only [kindOf,reduceCtorEq] at hdd
     rename_i e'
     injection hdd with hdd;subst hdd
     split at he
     · rename_i te hte
       split at he
       · rename_i px wx m g hel
         cases hb:(Nat.beq wx te.size && Nat.ble 1 te.size) with
         | false=>simp [hb] at he
         | true =>
           simp only [hb,cond_true] at he
           simp only [Bool.and_eq_true,Nat.ble_eq] at hb
           have hwx:=Nat.eq_of_beq_eq_true hb.1
           subst hwx
           split at he
           · rename_i k wd' n
             split at he
             · rename_i wd'' n' f hl
               cases hbb:(Nat.beq wd' wd'' && Nat.beq wd' te.size) with
               | false=>simp [hbb] at he
               | true =>
                 simp only [hbb,cond_true,Option.some.injEq,Prod.mk.injEq] at he
                 obtain ⟨rfl,rfl,rfl⟩:=he
                 simp only [Bool.and_eq_true] at hbb
                 have hw1:=Nat.eq_of_beq_eq_true hbb.1
                 have hw2:=Nat.eq_of_beq_eq_true hbb.2
                 subst hw1;subst hw2
                 obtain ⟨hp1,hp2,hp3⟩:=hp
                 subst hp2;subst hp3
                 obtain ⟨bx,cx,rfl,lx,hl1,hl2,hl3⟩:=elemsA_sound (P:=P) hr.heap hx hel hp1 (by omega)
                 rcases hd with ⟨rfl,ba,rfl⟩|⟨hn0,b,mm,cap,hk,rfl,hcap1,hcap2⟩
                 · have hlx:lx=[]:=List.length_eq_zero_iff.1 (by simpa using hl1)
                   subst hlx
                   refine ⟨w,?_,hr.updVoid hl,rfl⟩
                   have h2:=hl2 w rfl
                   cases ba<;>cases bx<;>simp [Builtin.copy_,hu,lenOf_slice,run_size (hT _ _ hte),h2,goInt,storeCells]
                 have hre:(AObj.row te.size m f).real:=hn0
                 obtain ⟨b',m',hk',hat,hnA,hlt⟩:=hr.heap.objs _ (look_mem hl) hre
                 rw [hk] at hk';injection hk' with hk';injection hk' with e1 e2;subst e1;subst e2
                 obtain ⟨cs,ee,hc,hm,hnm,hall⟩:=hat
                 have hst:=run_storeCells_at P b 0 ee lx 0 cs w hc (by omega) (plain_all hl3)
                 simp only [Nat.zero_add,List.take_zero,List.nil_append] at hst
                 have hmin:Nat.min m m=m:=Nat.min_self m
                 refine ⟨w.setRow b (lx++cs.toList.drop lx.length).toArray,?_,?_,rfl⟩
                 · simp only [Builtin.copy_,List.getElem?_toArray,List.getElem?_cons_zero,List.getElem?_cons_succ,Sem.run_bind,hu,Result.andThen_ok,lenOf_slice,hmin,run_size (hT _ _ hte),hl2 w rfl,Nat.zero_mul]
                   simp only [Sem.run_bind,hst,Result.andThen_ok,Sem.run_pure,goInt]
                 · refine hr.write hl hre hk rfl rfl rfl (by simp) (fun b' hb'=>setRow_ne hb') ?_
                   refine ⟨_,ee,setRow_get hc,by simp;omega,by omega,?_⟩
                   intro i hi j hj
                   have hin:(i+1) * te.size≤m * te.size:=Nat.mul_le_mul_right _ hi
                   rw [Nat.add_mul] at hin
                   have hlt2:i * te.size+j < lx.length:=by omega
                   refine ⟨lx[i * te.size+j],?_,?_⟩
                   · simp only [List.getElem?_toArray]
                     rw [List.getElem?_append_left hlt2,List.getElem?_eq_getElem hlt2]
                   · have hat2:=hl3 (i * te.size+j) _ (List.getElem?_eq_getElem hlt2)
                     have e1:(i * te.size+j) / te.size=i:=by rw [Nat.mul_comm,Nat.mul_add_div (by omega),Nat.div_eq_of_lt hj,Nat.add_zero]
                     have e2:(i * te.size+j) % te.size=j:=by rw [Nat.mul_comm,Nat.mul_add_mod,Nat.mod_eq_of_lt hj]
                     rw [e1,e2] at hat2
                     have hA:∀ b',A b'→(w.setRow b (lx++cs.toList.drop lx.length).toArray).heap[b']? = w.heap[b']?:=fun b' hb'=>setRow_ne (fun e=>by subst e;exact hnA hb')
                     exact Cell.At.mono (w:=w) (ρ':=ρ) (fun _ h=>h) hA (fun _ _ h=>h) hat2
             · cases he
           · cases he
       · cases he
     · cases he
   · cases he
 · cases he
def boundA (s:St) (d:Int):Option Operand→Option Int
 | none=>some d
 | some x=>match evO s x with
   | some (.o (.c (.t (.v (.int _ n)))))=>some n
   | _=>none
def sliceA (ti:Nat→Option TI) (t:Nat) (s:St) (x:A1) (lo hi:Option Operand):Option (Prop × A1) :=
 match ti t with
 | some tx=>match tx.k with
   | .sli e=>match ti e with
     | some te=>match x with
       | .c (.sl k wd q n)=>match boundA s 0 lo,boundA s n hi with
         | some l,some h=>bif Nat.beq wd te.size then some (0≤l∧l < h∧h≤n,.c (.sl k wd (q+l.toNat) (h - l).toNat)) else none
         | _,_=>none
       | .c (.t (.sl wd n f))=>match boundA s 0 lo,boundA s n hi with
         | some l,some h=>bif Nat.beq wd te.size then some (0≤l∧l≤h∧h≤n∧(l=0 ∨ l < n),.c (.t (.sl wd (h - l).toNat fun i j=>f (l.toNat+i) j))) else none
         | _,_=>none
       | _=>none
     | none=>none
   | .str=>match x with
     | .c (.t (.v (.string b)))=>match boundA s 0 lo,boundA s b.size hi with
       | some l,some h=>some (0≤l∧l≤h∧h≤b.size,.c (.t (.v (.string (b.extract l.toNat h.toNat)))))
       | _,_=>none
     | _=>none
   | _=>none
 | none=>none
theorem boundA_none {P:Program} {c:Ctx} {s:St} {a:Act} {w:World} {A:Nat→Prop} {ρ:Rho} (hr:Rep c s a w A ρ) {d:Int} {o:Option Operand} {n:Int} (h:boundA s d o=some n) :
   (o=none∧n=d) ∨ ∃ x k,o=some x∧a.eval x=.int k n:=by
 unfold boundA at h
 split at h
 · injection h with h;exact .inl ⟨rfl,h.symm⟩
 · rename_i x
   split at h
   · rename_i k m he
     injection h with h;subst h
     have:=evO_sound hr he
     obtain ⟨e,_⟩:=this
     exact .inr ⟨x,k,rfl,e⟩
   · cases h
theorem run_bounds {P:Program} {w:World} {q:Bool} {n cap:Nat} {a:Act} {lo hi:Option Operand} {l h:Int} (hcap:n≤cap)
   (hlo:(lo=none∧l=0) ∨ ∃ x k,lo=some x∧a.eval x=.int k l) (hhi:(hi=none∧h=n) ∨ ∃ x k,hi=some x∧a.eval x=.int k h) (h1:0≤l) (h2:l≤h) (h3:h≤n) :
   (Instr.sliceBounds q n cap (lo.map a.eval) (hi.map a.eval) none).run P w=.ok (l.toNat,h.toNat,cap) w:=by
 have e1:∀ y:Nat,l≤y→(0≤l∧l≤(y:Int)):=fun y hy=>⟨h1,hy⟩
 have e2:0≤h∧h≤(cap:Int):=by omega
 rcases hhi with ⟨rfl,rfl⟩|⟨x,k,rfl,hx⟩<;>rcases hlo with ⟨rfl,rfl⟩|⟨y,k',rfl,hy⟩
 · simp [Instr.sliceBounds]
 · have:=e1 n h2
   simp [Instr.sliceBounds,Instr.sliceBound,asIntOf,hy,this]
 · simp [Instr.sliceBounds,Instr.sliceBound,asIntOf,hx,e2]
 · have:=e1 h.toNat (by omega)
   simp only [Instr.sliceBounds,Option.map_some,hx,hy,Instr.sliceBound,asIntOf,Sem.run_bind,Sem.run_pure,Result.andThen_ok,Option.isSome_none,Bool.false_eq_true,if_false,if_true]
   rw [if_pos e2]
   simp only [Sem.run_pure,Result.andThen_ok]
   rw [if_pos this]
   simp
theorem sliceA_sound {P:Program} {ti:Nat→Option TI} (hT:TOk P ti) {c:Ctx} {s:St} {a:Act} {w:World} {A:Nat→Prop} {ρ:Rho} (hr:Rep c s a w A ρ) {t:Nat} {x:A1} {u:Value} {lo hi:Option Operand}
   (hx:x.At w A ρ u) {p:Prop} {r:A1} (he:sliceA ti t s x lo hi=some (p,r)) (hp:p) :
   ∃ v,(Instr.sliceAt t u (lo.map a.eval) (hi.map a.eval) none).run P w=.ok v w∧r.At w A ρ v:=by
 unfold sliceA at he
 split at he
 · rename_i tx htx
   obtain ⟨dd,hdd,hu⟩:=run_und (hT _ _ htx) w
   split at he
   · rename_i e hk
     rw [hk] at hdd
     cases dd<;>simp only [kindOf,reduceCtorEq] at hdd
     rename_i e'
     injection hdd with hdd;subst hdd
     split at he
     · rename_i te hte
       have hs:=run_size (hT _ _ hte) w
       split at he
       · rename_i k wd q n
         split at he
         · rename_i l h hl hh
           cases hb:Nat.beq wd te.size with
           | false=>simp [hb] at he
           | true =>
             simp only [hb,cond_true,Option.some.injEq,Prod.mk.injEq] at he
             obtain ⟨rfl,rfl⟩:=he
             have hwd:=Nat.eq_of_beq_eq_true hb
             subst hwd
             obtain ⟨hp1,hp2,hp3⟩:=hp
             rcases hx with ⟨h0,_⟩|⟨_,b,m,cap,hk1,rfl,hc1,hc2⟩
             · omega
             have hbd:=run_bounds (P:=P) (w:=w) (a:=a) (q:=true) hc1.1 (boundA_none (P:=P) hr hl) (boundA_none (P:=P) hr hh) hp1 (by omega) hp3
             refine ⟨.slice (some ⟨b,(q+l.toNat) * te.size,none⟩) (h - l).toNat (cap - l.toNat),?_,.inr ⟨by omega,b,m,cap - l.toNat,hk1,rfl,by omega,?_⟩⟩
             · simp only [Instr.sliceAt,Sem.run_bind,hu,Result.andThen_ok,Instr.slice,hbd,hs,Sem.run_pure]
               congr 2
               · by_cases hcl:cap=l.toNat
                 · have:l.toNat=0:=by omega
                   rw [if_pos hcl,this,Nat.add_zero]
                 · rw [if_neg hcl]
                   simp [add_lit,Nat.add_mul]
               · omega
             · have:q+l.toNat+(cap - l.toNat)=q+cap:=by omega
               rw [this];exact hc2
         · cases he
       · rename_i wd n f
         split at he
         · rename_i l h hl hh
           cases hb:Nat.beq wd te.size with
           | false=>simp [hb] at he
           | true =>
             simp only [hb,cond_true,Option.some.injEq,Prod.mk.injEq] at he
             obtain ⟨rfl,rfl⟩:=he
             have hwd:=Nat.eq_of_beq_eq_true hb
             subst hwd
             obtain ⟨hp1,hp2,hp3,hp4⟩:=hp
             obtain ⟨base,cap,rfl,hcap,hall⟩:=hx
             · have hbd:=run_bounds (P:=P) (w:=w) (a:=a) (q:=true) hcap (boundA_none (P:=P) hr hl) (boundA_none (P:=P) hr hh) hp1 hp2 hp3
               refine ⟨.slice (if cap=l.toNat then base else base.map (·.add (l.toNat * te.size))) (h - l).toNat (cap - l.toNat),?_,_,_,rfl,by omega,?_⟩
               · simp only [Instr.sliceAt,Sem.run_bind,hu,Result.andThen_ok,Instr.slice,hbd,hs,Sem.run_pure]
                 congr 2
                 omega
               · intro i hi
                 obtain ⟨b,o,hb1,hb2,hb3⟩:=hall (l.toNat+i) (by omega)
                 subst hb1
                 refine ⟨b,o+l.toNat * te.size,?_,hb2,fun j hj=>?_⟩
                 · have:¬ cap=l.toNat:=by omega
                   simp [this,add_lit]
                 · obtain ⟨z,hz1,hz2⟩:=hb3 j hj
                   refine ⟨z,?_,hz2⟩
                   rw [← hz1,Nat.add_mul]
                   congr 2;omega
         · cases he
       · cases he
     · cases he
   · rename_i hk
     rw [hk] at hdd
     cases dd<;>simp only [kindOf,reduceCtorEq] at hdd
     split at he
     · rename_i b
       split at he
       · rename_i l h hl hh
         simp only [Option.some.injEq,Prod.mk.injEq] at he
         obtain ⟨rfl,rfl⟩:=he
         obtain ⟨hp1,hp2,hp3⟩:=hp
         obtain ⟨rfl,_⟩:=hx
         have hbd:=run_bounds (P:=P) (w:=w) (a:=a) (q:=false) (Nat.le_refl b.size) (boundA_none (P:=P) hr hl) (boundA_none (P:=P) hr hh) hp1 hp2 hp3
         refine ⟨.string (b.extract l.toNat h.toNat),?_,rfl,rfl⟩
         simp only [Instr.sliceAt,Sem.run_bind,hu,Result.andThen_ok,Instr.slice,hbd,Sem.run_pure,Option.isSome_none,Bool.false_eq_true,if_false]
       · cases he
     · cases he
   · cases he
 · cases he
end Go.Hw
namespace Go.Hw
def scal (v:Value):AV:=.o (.c (.t (.v v)))
def eqL:List Cell→List Cell→Option Bool
 | [],[]=>some true
 | .t (.v (.int .i64 a)) ::l,.t (.v (.int .i64 b)) ::m=>match eqL l m with
   | some r=>some (decide (a=b) && r)
   | none=>none
 | _,_=>none
theorem drop_cons {α:Type} {l:List α} {i:Nat} {x:α} {r:List α} (h:l.drop i=x ::r):l[i]? = some x∧l.drop (i+1)=r:=by
 have h1:(l.drop i)[0]? = some x:=by rw [h];rfl
 have h2:(l.drop i).drop 1=r:=by rw [h];rfl
 rw [List.getElem?_drop] at h1;rw [List.drop_drop] at h2
 exact ⟨h1,h2⟩
theorem eqL_sound {P:Program} {w:World} {A:Nat→Prop} {ρ:Rho} {xs ys:Array Value} {d n:Nat}:∀ {fs:List Field} {i:Nat} {l m:List Cell} {r:Bool},cmpF P i fs n=true→l.length+i=n →
   All2 (Cell.At w A ρ) l (xs.toList.drop i)→All2 (Cell.At w A ρ) m (ys.toList.drop i)→eqL l m=some r→∀ w1,(Op.eqFields (d+1) xs ys fs).run P w1=.ok r w1
 | [],i,l,m,r,hc,hn,hl,hm,he=>by
   simp only [cmpF] at hc
   have:=Nat.eq_of_beq_eq_true hc
   have:l=[]:=List.length_eq_zero_iff.1 (by omega)
   subst this
   cases m with
   | nil=>simp only [eqL,Option.some.injEq] at he;subst he;simp [Op.eqFields]
   | cons _ _=>simp [eqL] at he
 | f :: fs, i, l,m,r,hc,hn,hl,hm,he=>by
   simp only [cmpF,Bool.and_eq_true,decide_eq_true_eq] at hc
   obtain ⟨⟨⟨h1,h2⟩,h3⟩,h4⟩:=hc
   have h2:=Nat.eq_of_beq_eq_true h2
   match hu:P.underlying f.type,h3 with
   | some (.int k0),_ =>
     match l,m,he with
     | [],[],he =>
       have:∀ {fs:List Field} {i:Nat},cmpF P i fs n=true→i≤n:=by
         intro fs
         induction fs with
         | nil=>intro i h;simp only [cmpF] at h;exact Nat.le_of_eq (Nat.eq_of_beq_eq_true h)
         | cons f fs ih=>intro i h;simp only [cmpF,Bool.and_eq_true] at h;have:=ih h.2;omega
       have:=this h4
       simp at hn;omega
     | .t (.v (.int .i64 a)) ::l,.t (.v (.int .i64 b)) ::m,he =>
       simp only [eqL] at he
       split at he
       · rename_i r' hr'
         injection he with he;subst he
         cases hx:xs.toList.drop i with
         | nil=>rw [hx] at hl;exact hl.elim
         | cons x xr =>
           cases hy:ys.toList.drop i with
           | nil=>rw [hy] at hm;exact hm.elim
           | cons y yr =>
             rw [hx] at hl;rw [hy] at hm
             obtain ⟨⟨rfl,_⟩,hl⟩:=hl
             obtain ⟨⟨rfl,_⟩,hm⟩:=hm
             obtain ⟨x1,x2⟩:=drop_cons hx
             obtain ⟨y1,y2⟩:=drop_cons hy
             subst x2;subst y2
             have ag:∀ w',(isAgg f.type).run P w'=.ok false w':=by intro w';simp [isAgg,run_underlying hu]
             have px:∀ w',(part f.type xs f.offset).run P w'=.ok (.int .i64 a) w':=by
               intro w';simp only [part,Sem.run_bind,ag,Result.andThen_ok]
               rw [h2,← Array.getElem?_toList,x1];rfl
             have py:∀ w',(part f.type ys f.offset).run P w'=.ok (.int .i64 b) w':=by
               intro w';simp only [part,Sem.run_bind,ag,Result.andThen_ok]
               rw [h2,← Array.getElem?_toList,y1];rfl
             have ih:=eqL_sound (xs:=xs) (ys:=ys) (d:=d) (i:=i+1) h4 (by simp at hn;omega) hl hm hr'
             have heq:∀ w1,(Op.equalIn (d+1) f.type (.int .i64 a) (.int .i64 b)).run P w1=.ok (decide (a=b)) w1:=by intro w1;show _=Result.ok (a == b) w1;simp [Op.equalIn,run_underlying hu]
             intro w1
             simp only [Op.eqFields,h1,ne_eq,not_false_eq_true,if_true,Sem.run_bind,px,py,heq,Result.andThen_ok]
             cases hab:decide (a=b) with
             | true=>simp [ih]
             | false=>simp
       · cases he
def strA (op:BinOp) (x y:ByteArray):Option (Prop × Value):=match op with
 | .add=>some ((x.size:Int)+y.size≤9223372036854775807,.string (x++y))
 | .eql=>some (True,.bool (decide (x.data.toList=y.data.toList)))
 | .neq=>some (True,.bool (!decide (x.data.toList=y.data.toList)))
 | _=>none
theorem strA_sound {P:Program} {op:BinOp} {t:Nat} {x y:Operand} {a b:ByteArray} {p:Prop} {r:Value} (h:strA op a b=some (p,r)) (hp:p) :
   (∀ w1,((do eqGuard op t x y (.string a) (.string b);binOp op t (.string a) (.string b)):Sem Value).run P w1=.ok r w1)∧plain r=true:=by
 have hg:∀ op' w,(eqGuard op' t x y (.string a) (.string b)).run P w=.ok () w:=by
   intro op' w;unfold eqGuard;cases op'<;>simp
 have hb:∀ op' w,(op'=.add ∨ op'=.eql ∨ op'=.neq)→(binOp op' t (.string a) (.string b)).run P w=(Op.stringOp op' a b).run P w:=by
   rintro op' w (rfl|rfl|rfl)<;>rfl
 have he:(a.toList == b.toList)=decide (a.data.toList=b.data.toList):=by
   rw [ByteArray.toList_eq,ByteArray.toList_eq]
   by_cases e:a.data.toList=b.data.toList
   · rw [e,decide_eq_true rfl];simp
   · rw [decide_eq_false e];simpa using e
 unfold strA at h
 split at h
 · injection h with h;injection h with h3 h4;subst h4;subst h3
   refine ⟨fun w1=>?_,rfl⟩
   simp only [Sem.run_bind,hg,Result.andThen_ok,hb .add w1 (.inl rfl),Op.stringOp]
   have h0:IntKind.i64.max=9223372036854775807:=rfl
   rw [if_neg (by rw [h0];have hp:(a.size:Int)+b.size≤9223372036854775807:=hp;omega)]
   rfl
 · injection h with h;injection h with h3 h4;subst h4
   refine ⟨fun w1=>?_,rfl⟩
   simp only [Sem.run_bind,hg,Result.andThen_ok,hb .eql w1 (.inr (.inl rfl)),Op.stringOp,he]
   rfl
 · injection h with h;injection h with h3 h4;subst h4
   refine ⟨fun w1=>?_,rfl⟩
   simp only [Sem.run_bind,hg,Result.andThen_ok,hb .neq w1 (.inr (.inr rfl)),Op.stringOp,he]
   rfl
 · cases h
def cmpA (ti:Nat→Option TI) (op:BinOp) (t:Nat) (a b:A1):Option (Prop × Value) :=
 match ti t with
 | some x=>match x.k,a,b with
   | .pt,.c u,.c v=>match isNil u,isNil v with
     | some p,some q=>bif p || q then match op with
         | .eql=>some (True,.bool (p && q))
         | .neq=>some (True,.bool (!(p && q)))
         | _=>none
       else none
     | _,_=>none
   | .bl,a,b=>binA op a b
   | .str,.c (.t (.v (.string a))),.c (.t (.v (.string b)))=>strA op a b
   | .int _,.c (.t (.v (.int k n))),.c (.t (.v (.int k' m)))=>binA op (.c (.t (.v (.int k n)))) (.c (.t (.v (.int k' m))))
   | .st _,.g l,.g m=>bif x.cmp && Nat.beq l.length x.size then match eqL l m with
       | some r=>match op with
         | .eql=>some (True,.bool r)
         | .neq=>some (True,.bool (!r))
         | _=>none
       | none=>none
     else none
   | _,_,_=>none
 | none=>none
theorem isNil_sound {w:World} {A:Nat→Prop} {ρ:Rho} {u:Cell} {y:Value} {p:Bool} (hu:u.At w A ρ y) (h:isNil u=some p) :
   (p=true∧y=.pointer none) ∨ (p=false∧∃ a,y=.pointer (some a)):=by
 unfold isNil at h
 split at h
 · injection h with h;obtain ⟨rfl,_⟩:=hu;exact .inl ⟨h.symm,rfl⟩
 · injection h with h;obtain ⟨b,o,rfl,_⟩:=hu;exact .inr ⟨h.symm,_,rfl⟩
 · injection h with h;obtain ⟨b,m,_,rfl⟩:=hu;exact .inr ⟨h.symm,_,rfl⟩
 · injection h with h;obtain ⟨b,o,rfl,_⟩:=hu;exact .inr ⟨h.symm,_,rfl⟩
 · cases h
theorem cmpA_sound {P:Program} {ti:Nat→Option TI} (hT:TOk P ti) {w:World} {A:Nat→Prop} {ρ:Rho} {op:BinOp} {t:Nat} {x y:Operand} {a b:A1} {u v:Value} (ha:a.At w A ρ u) (hb:b.At w A ρ v)
   {p:Prop} {r:Value} (h:cmpA ti op t a b=some (p,r)) (hp:p) :
   (∀ w1,((do eqGuard op t x y u v;binOp op t u v):Sem Value).run P w1=.ok r w1)∧plain r=true:=by
 unfold cmpA at h
 split at h
 · rename_i tx htx
   obtain ⟨d,hu,hd⟩:=(hT _ _ htx).und
   split at h
   · rename_i hk
     rw [hk] at hd
     cases d<;>simp only [kindOf,reduceCtorEq] at hd
     split at h
     · rename_i p' q' hp' hq'
       have h1:=isNil_sound ha hp'
       have h2:=isNil_sound hb hq'
       have key:∀ d w,(p' || q')=true→(Op.equalIn (d+1) t u v).run P w=.ok (p' && q') w:=by
         intro d w hpq
         rcases h1 with ⟨rfl,rfl⟩|⟨rfl,a1,rfl⟩<;>rcases h2 with ⟨rfl,rfl⟩|⟨rfl,a2,rfl⟩
         · simp [Op.equalIn,run_underlying hu]
         · simp [Op.equalIn,run_underlying hu]
         · simp [Op.equalIn,run_underlying hu]
         · simp at hpq
       have he:∀ w,(p' || q')=true→(Op.equal t u v).run P w=.ok (p' && q') w:=key 9999
       have hg:∀ op' w,(eqGuard op' t x y u v).run P w=.ok () w:=by
         intro op' w
         rcases h1 with ⟨_,rfl⟩|⟨_,a1,rfl⟩<;>rcases h2 with ⟨_,rfl⟩|⟨_,a2,rfl⟩<;>(unfold eqGuard;cases op'<;>simp)
       have hbin:∀ op' w,(op'=.eql ∨ op'=.neq)→(binOp op' t u v).run P w=((Op.equal t u v).run P w).andThen fun b w'=>.ok (.bool (if op'=.eql then b else !b)) w':=by
         intro op' w ho
         rcases h1 with ⟨_,rfl⟩|⟨_,a1,rfl⟩<;>rcases h2 with ⟨_,rfl⟩|⟨_,a2,rfl⟩<;>rcases ho with rfl|rfl<;>simp [binOp]
       cases hpq:(p' || q') with
       | false=>simp [hpq] at h
       | true =>
         simp only [hpq,cond_true] at h
         split at h
         · injection h with h;injection h with h3 h4;subst h4
           refine ⟨fun w1=>?_,rfl⟩
           simp only [Sem.run_bind,hg,Result.andThen_ok,hbin .eql w1 (.inl rfl),he w1 hpq]
           rfl
         · injection h with h;injection h with h3 h4;subst h4
           refine ⟨fun w1=>?_,rfl⟩
           simp only [Sem.run_bind,hg,Result.andThen_ok,hbin .neq w1 (.inr rfl),he w1 hpq]
           rfl
         · cases h
     · cases h
   · rename_i hk
     rw [hk] at hd
     cases d<;>simp only [kindOf,reduceCtorEq] at hd
     exact binA_sound ha hb h hp (fun _ _=>hu)
   · rename_i a b hk
     obtain ⟨rfl,_⟩:=ha
     obtain ⟨rfl,_⟩:=hb
     exact strA_sound h hp
   · rename_i k k1 n k2 m hk
     rw [hk] at hd
     cases d<;>simp only [kindOf,reduceCtorEq] at hd
     refine binA_sound ha hb h hp (fun q hq=>?_)
     obtain ⟨e,_⟩:=ha
     rw [hq] at e;cases e
   · rename_i fs l m hk
     cases hc:(tx.cmp && Nat.beq l.length tx.size) with
     | false=>simp [hc] at h
     | true =>
       simp only [hc,cond_true] at h
       simp only [Bool.and_eq_true] at hc
       have hln:=Nat.eq_of_beq_eq_true hc.2
       have hcb:=(hT _ _ htx).2.2.1
       simp only [hc.1,Bool.not_true,Bool.false_or,cmpB,Bool.and_eq_true,Bool.not_eq_true'] at hcb
       obtain ⟨⟨g1,g2⟩,g3⟩:=hcb
       obtain ⟨xs,rfl,hl⟩:=ha
       obtain ⟨ys,rfl,hm⟩:=hb
       split at h
       · rename_i r' hr
         match hut:P.underlying t,g3 with
         | some (.struct F),g3 =>
           have hF:P.fieldsOf t=F:=by simp [Program.fieldsOf,hut]
           have hgd:∀ w,(eqGuard op t x y (.agg xs) (.agg ys)).run P w=.ok () w:=fun w=>run_eqGuard_agg w op t x y xs ys g2
           have he:=eqL_sound (P:=P) (xs:=xs) (ys:=ys) (d:=9998) g3 (by rw [hln];rfl) (by simpa using hl) (by simpa using hm) hr
           have he2:∀ w,(Op.equalIn 10000 t (.agg xs) (.agg ys)).run P w=.ok r' w:=by
             intro w;rw [run_equalIn_agg w 9999 t xs ys (by rw [hF];exact hut) g1,hF];exact he w
           split at h
           · injection h with h;injection h with h3 h4;subst h4
             refine ⟨fun w1=>?_,rfl⟩
             simp only [Sem.run_bind,hgd,Result.andThen_ok,run_eql_struct,he2]
           · injection h with h;injection h with h3 h4;subst h4
             refine ⟨fun w1=>?_,rfl⟩
             simp only [Sem.run_bind,hgd,Result.andThen_ok,run_neq_struct,he2]
           · cases h
       · cases h
   · cases h
 · cases h
end Go.Hw
