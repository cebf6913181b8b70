/- What is proved here: parts of the walk of the law and of its plain side; no condition but those that each theorem states. -/
import Derived.Test.YtjhcbnnochohpaaPH3
set_option linter.all false
set_option maxRecDepth 100000
set_option maxHeartbeats 16000000
namespace Go.Hw
structure Packet where
 seq:Int
 kind:Int
 src:Int
 dst:Int
 sum:Int
 till:Int
 ver:Int
 deriving DecidableEq,Inhabited
structure Bank where
 own:List Int
 notes:List Int
 locked:Int
 deriving DecidableEq,Inhabited
structure State where
 way:Int
 ver:Int
 want:Int
 sent:List Packet
 live:List Bool
 back:List Bool
 got:List Int
 deriving DecidableEq,Inhabited
structure Chain where
 id:Int
 bank:Bank
 state:State
 past:List State
 knows:List Int
 deriving DecidableEq,Inhabited
structure Event where
 kind:Int
 chain:Int
 height:Int
 n:Int
 packet:Packet
 deriving DecidableEq,Inhabited
def In (n l h:Int):Bool:=decide (l≤n) && decide (n≤h)
theorem In_iff {n l h:Int}:In n l h=true ↔ l≤n∧n≤h:=by simp [In]
def rall (n:Nat) (p:Nat→Bool):Bool:=(List.range n).all p
theorem rall_iff {n:Nat} {p:Nat→Bool}:rall n p=true ↔ ∀ i,i < n→p i=true:=by simp [rall]
theorem rall_zero {p:Nat→Bool}:rall 0 p=true:=rfl
theorem rall_succ {n:Nat} {p:Nat→Bool} (h:rall n p=true) (hp:p n=true):rall (n+1) p=true:=by
 rw [rall_iff] at *;intro i hi
 rcases Nat.lt_succ_iff_lt_or_eq.1 hi with h'|rfl
 · exact h i h'
 · exact hp
theorem rall_false {n i:Nat} {p:Nat→Bool} (hi:i < n) (hp:p i=false):rall n p=false:=by
 cases h:rall n p with
 | false=>rfl
 | true=>rw [rall_iff] at h;rw [h i hi] at hp;cases hp
def Packet.ok (p:Packet):Bool:=In p.seq 1 8 && (In p.kind 1 2 && (In p.src 1 3 && (In p.dst 0 3 && (In p.sum 1 9 && (In p.till 1 90 && In p.ver 1 9)))))
def isum (l:List Int):Int:=l.foldl (·+·) 0
theorem isum_take (l:List Int) (i:Nat) (h:i < l.length):isum (l.take (i+1))=isum (l.take i)+l.getD i 0:=by
 unfold isum
 rw [List.take_succ,List.foldl_append]
 simp [List.getD,h]
def parts (l:List Int):Bool:=rall l.length (fun i=>In (l.getD i 0) 0 30) && decide ((l.length:Int)=3)
theorem parts_len {l:List Int} (h:parts l=true):l.length=3:=by
 simp only [parts,Bool.and_eq_true,decide_eq_true_eq] at h;omega
theorem parts_get {l:List Int} (h:parts l=true) (i:Nat):0≤l.getD i 0∧l.getD i 0≤30:=by
 by_cases hi:i < l.length
 · simp only [parts,Bool.and_eq_true,rall_iff,In_iff] at h;exact h.1 i hi
 · simp [List.getD,List.getElem?_eq_none (Nat.le_of_not_lt hi)]
theorem parts_set {l:List Int} (h:parts l=true) {i:Nat} {v:Int} (hv:0≤v∧v≤30):parts (l.set i v)=true:=by
 have hl:=parts_len h
 simp only [parts,Bool.and_eq_true,rall_iff,In_iff,List.length_set,decide_eq_true_eq] at h ⊢
 refine ⟨fun k hk=>?_,h.2⟩
 have:=h.1 k hk
 simp only [List.getD,List.getElem?_set] at *
 split
 · split
   · simpa using hv
   · simp
 · exact this
theorem parts_sum {l:List Int} (h:parts l=true):∀ i,i≤l.length→0≤isum (l.take i)∧isum (l.take i)≤30 * i
 | 0,_=>by simp [isum]
 | i+1,hi=>by
   rw [isum_take l i (by omega)]
   have:=parts_sum h i (by omega)
   have:=parts_get h i
   omega
theorem parts_all {l:List Int} (h:parts l=true):0≤isum l∧isum l≤90:=by
 have:=parts_sum h l.length (Nat.le_refl _)
 rw [List.take_length,parts_len h] at this;omega
def Bank.ok (b:Bank):Bool:=parts b.own && (parts b.notes && (decide (0≤b.locked) && (decide (isum b.own+b.locked=30) && decide (isum b.notes≤30))))
theorem bank_ok {b:Bank} (h:b.ok=true):parts b.own=true∧parts b.notes=true∧0≤b.locked∧isum b.own+b.locked=30∧isum b.notes≤30:=by
 simpa [Bank.ok] using h
theorem Packet.eq_iff {p q:Packet}:p=q ↔ (p.seq=q.seq∧p.kind=q.kind∧p.src=q.src∧p.dst=q.dst∧p.sum=q.sum∧p.till=q.till∧p.ver=q.ver):=by
 cases p;cases q;simp
theorem contains_false {l:List Int} {n:Int} (h:∀ j,j < l.length→l.getD j 0 ≠ n):l.contains n=false:=by
 cases hc:l.contains n with
 | false=>rfl
 | true =>
   have hm:n ∈ l:=by simpa using hc
   obtain ⟨i,hi,e⟩:=List.getElem_of_mem hm
   exact absurd (by simp [List.getD,hi,e]) (h i hi)
theorem contains_true {l:List Int} {n:Int} {i:Nat} (hi:i < l.length) (h:l.getD i 0=n):l.contains n=true:=by
 have:n ∈ l:=by rw [← h];simp [List.getD,hi]
 simpa using this
def State.sentOk (s:State) (i:Nat):Bool:=(s.sent.getD i default).ok && (decide ((s.sent.getD i default).seq=(i:Int)+1) && (!(s.live.getD i false && s.back.getD i false) && decide ((s.sent.getD i default).ver≤s.ver)))
def State.ok (s:State):Bool:=In s.way 0 4 && (In s.ver 1 9 && (decide ((s.sent.length:Int)≤8) && (decide ((s.live.length:Int)=s.sent.length) && (decide ((s.back.length:Int)=s.sent.length) && (decide ((s.got.length:Int)=8) &&
 (rall s.sent.length s.sentOk && (rall s.got.length (fun i=>In (s.got.getD i 0) 0 2) && (bif decide (s.way=4) then decide (s.want=s.ver+1) && decide (s.want≤9) else decide (s.want=0)))))))))
theorem state_ok {s:State} (h:s.ok=true):(0≤s.way∧s.way≤4)∧(1≤s.ver∧s.ver≤9)∧s.sent.length≤8∧s.live.length=s.sent.length∧s.back.length=s.sent.length∧s.got.length=8 ∧
   (∀ i,i < s.sent.length→s.sentOk i=true)∧(∀ i,i < 8→0≤s.got.getD i 0∧s.got.getD i 0≤2)∧(if s.way=4 then s.want=s.ver+1∧s.want≤9 else s.want=0):=by
 simp only [State.ok,Bool.and_eq_true,decide_eq_true_eq,In_iff,rall_iff] at h
 obtain ⟨h1,h2,h3,h4,h5,h6,h7,h8,h9⟩:=h
 have h6':s.got.length=8:=by omega
 refine ⟨h1,h2,by omega,by omega,by omega,h6',h7,fun i hi=>h8 i (by omega),?_⟩
 split
 · rename_i hw
   simpa [hw] using h9
 · rename_i hw
   simpa [hw] using h9
theorem sentOk_iff {s:State} {i:Nat} (h:s.sentOk i=true):(s.sent.getD i default).ok=true∧(s.sent.getD i default).seq=(i:Int)+1∧(s.live.getD i false=false ∨ s.back.getD i false=false)∧(s.sent.getD i default).ver≤s.ver:=by
 simpa [-List.getD_eq_getElem?_getD,State.sentOk] using h
def knowOk (l:List Int) (i:Nat):Bool:=In (l.getD i 0) 1 90 && !(decide (0 < (i:Int)) && decide (l.getD i 0≤l.getD ((i:Int) - 1).toNat 0))
def Chain.ok (c:Chain):Bool:=In c.id 1 2 && (c.bank.ok && (c.state.ok && (decide ((c.past.length:Int)≤90) && (rall c.past.length (fun i=>(c.past.getD i default).ok) && rall c.knows.length (knowOk c.knows)))))
theorem chain_ok {c:Chain} (h:c.ok=true):(1≤c.id∧c.id≤2)∧c.bank.ok=true∧c.state.ok=true∧c.past.length≤90∧(∀ i,i < c.past.length→(c.past.getD i default).ok=true)∧(∀ i,i < c.knows.length→knowOk c.knows i=true):=by
 simp only [Chain.ok,Bool.and_eq_true,decide_eq_true_eq,In_iff,rall_iff] at h
 obtain ⟨h1,h2,h3,h4,h5,h6⟩:=h
 exact ⟨h1,h2,h3,by omega,h5,h6⟩
theorem knows_ge {l:List Int} (h:∀ i,i < l.length→knowOk l i=true):∀ i,i < l.length→(i:Int)+1≤l.getD i 0
 | 0,hi=>by
   have:=h 0 hi
   simp only [knowOk,Bool.and_eq_true,In_iff] at this
   omega
 | i+1,hi=>by
   have h1:=knows_ge h i (by omega)
   have h2:=h (i+1) hi
   have e:(((i+1:Nat):Int) - 1).toNat=i:=by omega
   simp only [knowOk,e,Bool.and_eq_true,In_iff,Bool.not_eq_true',Bool.and_eq_false_iff,decide_eq_false_iff_not] at h2
   omega
theorem knows_len {l:List Int} (h:∀ i,i < l.length→knowOk l i=true):l.length≤90:=by
 by_cases h0:l.length=0
 · omega
 · have h1:=knows_ge h (l.length - 1) (by omega)
   have h2:=h (l.length - 1) (by omega)
   simp only [knowOk,Bool.and_eq_true,In_iff] at h2
   omega
theorem filter_take (p:Int→Bool) (l:List Int) (i:Nat) (h:i < l.length):(l.take (i+1)).filter p=(l.take i).filter p++(if p (l.getD i 0)=true then [l.getD i 0] else []):=by
 rw [List.take_succ,List.filter_append]
 simp only [List.getD,List.getElem?_eq_getElem h,Option.getD_some,Option.toList_some]
 cases hp:p l[i]<;>simp [hp]
def kOk (c o:Chain):Bool:=!(decide (0 < (c.knows.length:Int)) && decide ((o.past.length:Int) < c.knows.getD ((c.knows.length:Int) - 1).toNat 0))
def wOk (l:List Chain):Bool:=decide ((l.length:Int)=2) && ((l.getD 0 default).ok && (decide ((l.getD 0 default).id=1) && (kOk (l.getD 0 default) (l.getD 1 default) && ((l.getD 1 default).ok && (decide ((l.getD 1 default).id=2) && kOk (l.getD 1 default) (l.getD 0 default))))))
def Bank.new:Bank:=⟨[10,10,10],[0,0,0],0⟩
def State.new:State:=⟨0,1,0,[],[],[],List.replicate 8 0⟩
def Chain.new (id:Int):Chain:=⟨id,Bank.new,State.new,[],[]⟩
def Bank.list (b:Bank) (kind:Int):List Int:=if kind=1 then b.own else b.notes
def Bank.put (b:Bank) (kind:Int) (l:List Int):Bank:=if kind=1 then { b with own:=l } else { b with notes:=l }
def Bank.at (b:Bank) (kind u:Int):Int:=(b.list kind).getD (u - 1).toNat 0
def Bank.add (b:Bank) (kind u n:Int):Bank:=b.put kind ((b.list kind).set (u - 1).toNat (b.at kind u+n))
def Bank.dec (b:Bank) (kind u n:Int):Bank:=b.put kind ((b.list kind).set (u - 1).toNat (b.at kind u - n))
def Bank.moveB (b:Bank) (kind src dst sum:Int):Bool:=b.ok && (In kind 1 2 && (In src 1 3 && (In dst 1 3 && (decide (0≤sum) && decide (sum≤b.at kind src)))))
def Bank.moveD (b:Bank) (kind src dst sum:Int):Bank:=(b.dec kind src sum).add kind dst sum
def Bank.none:Bank:=⟨[],[],0⟩
def Bank.moved (b:Bank) (kind src dst sum:Int):Bank:=if b.moveB kind src dst sum then b.moveD kind src dst sum else Bank.none
def Bank.awayB (b:Bank) (kind src sum:Int):Bool:=decide (sum≤b.at kind src)
def Bank.awayD (b:Bank) (kind src sum:Int):Bank:=if kind=1 then { b.dec kind src sum with locked:=b.locked+sum } else b.dec kind src sum
def Bank.away (b:Bank) (kind src sum:Int):Bank:=if b.awayB kind src sum then b.awayD kind src sum else b
def Bank.backB (b:Bank) (kind dst sum:Int):Bool:=!(decide (kind=1) && decide (b.locked < sum) || decide (kind=2) && decide (30 < isum b.notes+sum))
def Bank.backD (b:Bank) (kind dst sum:Int):Bank:=if kind=1 then { b.add kind dst sum with locked:=b.locked - sum } else b.add kind dst sum
def Bank.back (b:Bank) (kind dst sum:Int):Bank:=if b.backB kind dst sum then b.backD kind dst sum else b
def State.hasB (s:State) (p:Packet):Bool:=In p.seq 1 s.sent.length && (decide (s.sent.getD (p.seq - 1).toNat default=p) && s.live.getD (p.seq - 1).toNat false)
def liveN (l:List Bool):Nat:=(l.filter id).length
def State.lives (s:State):Nat:=liveN s.live
def State.gotAt (s:State) (seq:Int):Int:=s.got.getD (seq - 1).toNat 0
def wayMay (s o:State) (step:Int):Bool :=
 if step=1 then decide (s.way=0)
 else if step=2 then decide (s.way≤1) && (decide (o.way=1) || decide (o.way=2))
 else if step=3 then decide (s.way=1) && decide (2≤o.way)
 else if step=4 then decide (s.way=2) && decide (2≤o.way)
 else if step=5 then decide (s.way=3) && decide (s.ver < 9)
 else if step=6 then decide (s.way=3) && (decide (o.way=4) && decide (o.want=s.ver+1))
 else if step=7 then decide (s.way=4) && (decide ((s.lives:Int)=0) && (decide (o.way=4) && (decide (o.want=s.want) && decide ((o.lives:Int)=0)) || decide (o.ver=s.want)))
 else false
def wayDo (s o:State) (step:Int):State :=
 if step=1 then { s with way:=1 }
 else if step=2 then { s with way:=2 }
 else if step=3 ∨ step=4 then { s with way:=3 }
 else if step=5 then { s with way:=4,want:=s.ver+1 }
 else if step=6 then { s with way:=4,want:=o.want }
 else if step=7 then { s with way:=3,ver:=s.want,want:=0 }
 else s
def Chain.block (c:Chain):Chain:=if (c.past.length:Int) < 90 then { c with past:=c.past++[c.state] } else c
def Chain.packet (c:Chain) (kind src dst sum till:Int):Packet:=⟨c.state.sent.length+1,kind,src,dst,sum,till,c.state.ver⟩
def Chain.sendB (c:Chain) (kind src dst sum till:Int):Bool:=decide (c.state.way=3) && ((c.packet kind src dst sum till).ok && c.bank.awayB kind src sum)
def Chain.sendD (c:Chain) (kind src dst sum till:Int):Chain :=
 { c with bank:=c.bank.awayD kind src sum,state:={ c.state with sent:=c.state.sent++[c.packet kind src dst sum till],live:=c.state.live++[true],back:=c.state.back++[false] } }
def Chain.send (c:Chain) (kind src dst sum till:Int):Chain:=if c.sendB kind src dst sum till then c.sendD kind src dst sum till else c
def otherK (kind:Int):Int:=if kind=2 then 1 else 2
def Chain.getB (c:Chain) (s:State) (p:Packet):Bool:=decide (3≤c.state.way) && (s.hasB p && (decide (c.state.gotAt p.seq=0) && (decide (p.ver=c.state.ver) && decide ((c.past.length:Int)+1 < p.till))))
def payB (b:Bank) (p:Packet):Bool:=decide (p.dst ≠ 0) && b.backB (otherK p.kind) p.dst p.sum
def Chain.getD (c:Chain) (p:Packet):Chain :=
 { c with bank:=if payB c.bank p then c.bank.backD (otherK p.kind) p.dst p.sum else c.bank,state:={ c.state with got:=c.state.got.set (p.seq - 1).toNat (if payB c.bank p then 1 else 2) } }
def Chain.get (c:Chain) (s:State) (p:Packet):Chain:=if c.getB s p then c.getD p else c
def Chain.sentAt (c:Chain) (seq:Int):Packet:=c.state.sent.getD (seq - 1).toNat default
def Chain.mine (c:Chain) (seq:Int):Bool:=In seq 1 c.state.sent.length && c.state.live.getD (seq - 1).toNat false
def Bank.refund (b:Bank) (p:Packet):Bank:=b.back p.kind p.src p.sum
def Chain.settle (c:Chain) (seq:Int) (back:Bool):Chain :=
 { c with bank:=if back then c.bank.refund (c.sentAt seq) else c.bank,state:={ c.state with live:=c.state.live.set (seq - 1).toNat false,back:=if back then c.state.back.set (seq - 1).toNat true else c.state.back } }
def Chain.tellB (c:Chain) (s:State) (seq:Int):Bool:=c.mine seq && decide (s.gotAt seq ≠ 0)
def Chain.tell (c:Chain) (s:State) (seq:Int):Chain:=if c.tellB s seq then c.settle seq (decide (s.gotAt seq=2)) else c
def Chain.lateB (c:Chain) (s:State) (h seq:Int):Bool:=c.mine seq && (decide ((c.sentAt seq).till≤h) && decide (s.gotAt seq=0))
def Chain.late (c:Chain) (s:State) (h seq:Int):Chain:=if c.lateB s h seq then c.settle seq true else c
def Chain.step (c:Chain) (s:State) (n:Int):Chain:=if wayMay c.state s n then { c with state:=wayDo c.state s n } else c
def Chain.move (c:Chain) (kind src dst sum:Int):Chain:=if c.bank.moveB kind src dst sum then { c with bank:=c.bank.moveD kind src dst sum } else c
def Chain.knowB (c o:Chain) (h:Int):Bool:=In h 1 o.past.length && !c.knows.contains h
def Chain.know (c o:Chain) (h:Int):Chain:=if c.knowB o h then { c with knows:=c.knows.filter (fun x=>decide (x < h))++h ::c.knows.filter (fun x=>decide (h < x)) } else c
def Chain.relayB (c o:Chain) (h:Int):Bool:=c.knows.contains h && decide (h≤o.past.length)
def Chain.at (o:Chain) (h:Int):State:=o.past.getD (h - 1).toNat default
def Chain.relay (c o:Chain) (e:Event):Chain :=
 if c.relayB o e.height then
   if e.kind=4 then (if e.packet.ok then c.get (o.at e.height) e.packet else c)
   else if e.kind=5 then c.tell (o.at e.height) e.n
   else if e.kind=6 then c.late (o.at e.height) e.height e.n
   else if e.kind=7 then c.step (o.at e.height) e.n
   else c
 else c
def Chain.on (c o:Chain) (e:Event):Chain :=
 if e.kind=1 then c.block
 else if e.kind=2 then c.know o e.height
 else if e.kind=3 then c.send e.packet.kind e.packet.src e.packet.dst e.packet.sum e.packet.till
 else if e.kind=8 then c.move e.packet.kind e.packet.src e.packet.dst e.packet.sum
 else if e.kind=7∧(e.n=1 ∨ e.n=5) then c.step State.new e.n
 else c.relay o e
structure Two where
 a:Chain
 b:Chain
 deriving DecidableEq,Inhabited
def Two.list (w:Two):List Chain:=[w.a,w.b]
def Two.new:Two:=⟨Chain.new 1,Chain.new 2⟩
def Two.on (w:Two) (e:Event):Two:=if e.chain=1 then { w with a:=w.a.on w.b e } else if e.chain=2 then { w with b:=w.b.on w.a e } else w
def Two.ok (w:Two):Bool:=wOk w.list
end Go.Hw
namespace Go.Hw
abbrev ci (n:Int):Cell:=.t (.v (.int .i64 n))
abbrev cb (b:Bool):Cell:=.t (.v (.bool b))
abbrev I (n:Int):A1:=.c (.t (.v (.int .i64 n)))
abbrev BB (b:Bool):A1:=.c (.t (.v (.bool b)))
attribute [go_sem] ci cb I BB
def nixT:TV:=.v (.bool false)
def tI (l:List Int) (i j:Nat):TV:=if j=0 then .v (.int .i64 (l.getD i 0)) else nixT
def tB (l:List Bool) (i j:Nat):TV:=if j=0 then .v (.bool (l.getD i false)) else nixT
def Packet.tv (p:Packet):Nat→TV
 | 0=>.v (.int .i64 p.seq)
 | 1=>.v (.int .i64 p.kind)
 | 2=>.v (.int .i64 p.src)
 | 3=>.v (.int .i64 p.dst)
 | 4=>.v (.int .i64 p.sum)
 | 5=>.v (.int .i64 p.till)
 | 6=>.v (.int .i64 p.ver)
 | _=>nixT
def tP (l:List Packet) (i:Nat):Nat→TV:=(l.getD i default).tv
abbrev intsT (l:List Int):TV:=.sl 1 l.length (tI l)
abbrev boolsT (l:List Bool):TV:=.sl 1 l.length (tB l)
abbrev packetsT (l:List Packet):TV:=.sl 7 l.length (tP l)
def Bank.tv (b:Bank):Nat→TV
 | 0=>intsT b.own
 | 1=>intsT b.notes
 | 2=>.v (.int .i64 b.locked)
 | _=>nixT
def State.tv (s:State):Nat→TV
 | 0=>.v (.int .i64 s.way)
 | 1=>.v (.int .i64 s.ver)
 | 2=>.v (.int .i64 s.want)
 | 3=>packetsT s.sent
 | 4=>boolsT s.live
 | 5=>boolsT s.back
 | 6=>intsT s.got
 | _=>nixT
def tS (l:List State) (i:Nat):Nat→TV:=(l.getD i default).tv
abbrev statesT (l:List State):TV:=.sl 7 l.length (tS l)
def Chain.tv (c:Chain):Nat→TV
 | 0=>.v (.int .i64 c.id)
 | 1=>intsT c.bank.own
 | 2=>intsT c.bank.notes
 | 3=>.v (.int .i64 c.bank.locked)
 | 4=>.v (.int .i64 c.state.way)
 | 5=>.v (.int .i64 c.state.ver)
 | 6=>.v (.int .i64 c.state.want)
 | 7=>packetsT c.state.sent
 | 8=>boolsT c.state.live
 | 9=>boolsT c.state.back
 | 10=>intsT c.state.got
 | 11=>statesT c.past
 | 12=>intsT c.knows
 | _=>nixT
def tC (l:List Chain) (i:Nat):Nat→TV:=(l.getD i default).tv
abbrev chainsT (l:List Chain):TV:=.sl 13 l.length (tC l)
def Event.tv (e:Event):Nat→TV
 | 0=>.v (.int .i64 e.kind)
 | 1=>.v (.int .i64 e.chain)
 | 2=>.v (.int .i64 e.height)
 | 3=>.v (.int .i64 e.n)
 | 4=>.v (.int .i64 e.packet.seq)
 | 5=>.v (.int .i64 e.packet.kind)
 | 6=>.v (.int .i64 e.packet.src)
 | 7=>.v (.int .i64 e.packet.dst)
 | 8=>.v (.int .i64 e.packet.sum)
 | 9=>.v (.int .i64 e.packet.till)
 | 10=>.v (.int .i64 e.packet.ver)
 | _=>nixT
def tE (l:List Event) (i:Nat):Nat→TV:=(l.getD i default).tv
def Packet.av (p:Packet):A1:=.g (tab 7 0 fun j=>.t (p.tv j))
def Bank.av (b:Bank):A1:=.g (tab 3 0 fun j=>.t (b.tv j))
def State.av (s:State):A1:=.g (tab 7 0 fun j=>.t (s.tv j))
def Chain.av (c:Chain):A1:=.g (tab 13 0 fun j=>.t (c.tv j))
def Event.av (e:Event):A1:=.g (tab 11 0 fun j=>.t (e.tv j))
def Packet.box (p:Packet):AObj:=.box (tab 7 0 fun j=>.t (p.tv j))
def Bank.box (b:Bank):AObj:=.box (tab 3 0 fun j=>.t (b.tv j))
def State.box (s:State):AObj:=.box (tab 7 0 fun j=>.t (s.tv j))
def Chain.box (c:Chain):AObj:=.box (tab 13 0 fun j=>.t (c.tv j))
def Event.box (e:Event):AObj:=.box (tab 11 0 fun j=>.t (e.tv j))
attribute [go_sem] Packet.box Bank.box State.box Chain.box Event.box Packet.tv Bank.tv State.tv Chain.tv Event.tv Packet.av Bank.av State.av Chain.av Event.av
def fI (l:List Int) (i j:Nat):Cell:=if j=0 then ci (l.getD i 0) else nix
def fB (l:List Bool) (i j:Nat):Cell:=if j=0 then cb (l.getD i false) else nix
def fP (l:List Packet) (i j:Nat):Cell:=.t ((l.getD i default).tv j)
def fS (l:List State) (i j:Nat):Cell:=.t ((l.getD i default).tv j)
def fE (l:List Event) (i j:Nat):Cell:=.t ((l.getD i default).tv j)
abbrev rI (l:List Int):AObj:=.row 1 l.length (fI l)
abbrev rB (l:List Bool):AObj:=.row 1 l.length (fB l)
abbrev rP (l:List Packet):AObj:=.row 7 l.length (fP l)
abbrev rS (l:List State):AObj:=.row 7 l.length (fS l)
abbrev rE (l:List Event):AObj:=.row 11 l.length (fE l)
section
variable {i j:Nat}
@[go_sem] theorem tI_zero (l:List Int):tI l i 0=.v (.int .i64 (l.getD i 0)):=rfl
@[go_sem] theorem tB_zero (l:List Bool):tB l i 0=.v (.bool (l.getD i false)):=rfl
@[go_sem] theorem fI_zero (l:List Int):fI l i 0=.t (.v (.int .i64 (l.getD i 0))):=rfl
@[go_sem] theorem fB_zero (l:List Bool):fB l i 0=.t (.v (.bool (l.getD i false))):=rfl
@[go_sem] theorem fP_ap (l:List Packet):fP l i j=.t ((l.getD i default).tv j):=rfl
@[go_sem] theorem fS_ap (l:List State):fS l i j=.t ((l.getD i default).tv j):=rfl
@[go_sem] theorem fE_ap (l:List Event):fE l i j=.t ((l.getD i default).tv j):=rfl
theorem t_tI (l:List Int):Cell.t (tI l i j)=fI l i j:=by unfold tI fI;split<;>rfl
theorem t_tB (l:List Bool):Cell.t (tB l i j)=fB l i j:=by unfold tB fB;split<;>rfl
end
@[go_sem] theorem row_tI (l:List Int):liftT (tI l)=fI l:=by funext i j;exact t_tI l
@[go_sem] theorem row_tB (l:List Bool):liftT (tB l)=fB l:=by funext i j;exact t_tB l
@[go_sem] theorem row_tP (l:List Packet):liftT (tP l)=fP l:=rfl
@[go_sem] theorem row_tS (l:List State):liftT (tS l)=fS l:=rfl
@[go_sem] theorem row_tE (l:List Event):liftT (tE l)=fE l:=rfl
@[go_sem] theorem ren_fI {g:Nat→Nat} (l:List Int):renF g (fI l)=fI l:=by funext i j;unfold renF fI;split<;>rfl
@[go_sem] theorem ren_fB {g:Nat→Nat} (l:List Bool):renF g (fB l)=fB l:=by funext i j;unfold renF fB;split<;>rfl
@[go_sem] theorem ren_fP {g:Nat→Nat} (l:List Packet):renF g (fP l)=fP l:=rfl
@[go_sem] theorem ren_fS {g:Nat→Nat} (l:List State):renF g (fS l)=fS l:=rfl
@[go_sem] theorem ren_fE {g:Nat→Nat} (l:List Event):renF g (fE l)=fE l:=rfl
@[go_sem] theorem ren_rowOf {g:Nat→Nat} (wd:Nat) (l:List Cell):renF g (rowOf wd l)=rowOf wd (l.map (Cell.ren g)):=by
 funext i j
 unfold renF rowOf
 by_cases h:j < wd
 · rw [if_pos h,if_pos h]
   by_cases h2:i * wd+j < l.length
   · rw [if_pos h2,if_pos (by simpa using h2)]
     simp [List.getD,h2]
   · rw [if_neg h2,if_neg (by simpa using h2)]
     by_cases h3:j < l.length
     · simp only [List.getD,List.getElem?_map,List.getElem?_eq_getElem h3,Option.map_some,Option.getD_some]
       generalize l[j]=c
       rcases c with (x|_|_)|_|_|_|_|_|_<;>first|rfl|(cases x<;>rfl)
     · simp only [List.getD,List.getElem?_map,List.getElem?_eq_none (Nat.le_of_not_lt h3),Option.map_none,Option.getD_none];rfl
 · rw [if_neg h,if_neg h];rfl
@[go_sem] theorem app_zero {f g:Nat→Nat→Cell}:app 0 f g=g:=by funext i j;simp [app]
@[go_sem] theorem app_fI (l m:List Int):app l.length (fI l) (fI m)=fI (l++m):=by
 funext i j;unfold app fI
 by_cases h:i < l.length
 · simp [h,List.getD,List.getElem?_append]
 · simp [h,List.getD,List.getElem?_append]
@[go_sem] theorem app_fB (l m:List Bool):app l.length (fB l) (fB m)=fB (l++m):=by
 funext i j;unfold app fB
 by_cases h:i < l.length
 · simp [h,List.getD,List.getElem?_append]
 · simp [h,List.getD,List.getElem?_append]
@[go_sem] theorem app_fP (l m:List Packet):app l.length (fP l) (fP m)=fP (l++m):=by
 funext i j;unfold app fP
 by_cases h:i < l.length
 · simp [h,List.getD,List.getElem?_append]
 · simp [h,List.getD,List.getElem?_append]
@[go_sem] theorem app_fS (l m:List State):app l.length (fS l) (fS m)=fS (l++m):=by
 funext i j;unfold app fS
 by_cases h:i < l.length
 · simp [h,List.getD,List.getElem?_append]
 · simp [h,List.getD,List.getElem?_append]
@[go_sem] theorem app_fE (l m:List Event):app l.length (fE l) (fE m)=fE (l++m):=by
 funext i j;unfold app fE
 by_cases h:i < l.length
 · simp [h,List.getD,List.getElem?_append]
 · simp [h,List.getD,List.getElem?_append]
@[go_sem] theorem app_fI_of {n:Nat} {l m:List Int} (h:(n == l.length)=true):app n (fI l) (fI m)=fI (l++m):=by
 have h:n=l.length:=by simpa using h
 subst h;exact app_fI l m
@[go_sem] theorem app_fB_of {n:Nat} {l m:List Bool} (h:(n == l.length)=true):app n (fB l) (fB m)=fB (l++m):=by
 have h:n=l.length:=by simpa using h
 subst h;exact app_fB l m
@[go_sem] theorem app_fP_of {n:Nat} {l m:List Packet} (h:(n == l.length)=true):app n (fP l) (fP m)=fP (l++m):=by
 have h:n=l.length:=by simpa using h
 subst h;exact app_fP l m
@[go_sem] theorem app_fS_of {n:Nat} {l m:List State} (h:(n == l.length)=true):app n (fS l) (fS m)=fS (l++m):=by
 have h:n=l.length:=by simpa using h
 subst h;exact app_fS l m
@[go_sem] theorem app_fE_of {n:Nat} {l m:List Event} (h:(n == l.length)=true):app n (fE l) (fE m)=fE (l++m):=by
 have h:n=l.length:=by simpa using h
 subst h;exact app_fE l m
theorem rowSet_fI {l:List Int} {i:Nat} {v:Int} (h:i < l.length):rowSet (fI l) i 0 [.t (.v (.int .i64 v))]=fI (l.set i v):=by
 funext i' j';unfold rowSet fI
 by_cases e:i'=i
 · subst e
   by_cases ej:j'=0
   · subst ej;simp [h,List.getD]
   · have:¬ (j' < 1):=by omega
     simp [ej,this]
 · have:¬ i=i':=fun h=>e h.symm
   simp [e,this,List.getD,List.getElem?_set]
theorem rowSet_fB {l:List Bool} {i:Nat} {v:Bool} (h:i < l.length):rowSet (fB l) i 0 [.t (.v (.bool v))]=fB (l.set i v):=by
 funext i' j';unfold rowSet fB
 by_cases e:i'=i
 · subst e
   by_cases ej:j'=0
   · subst ej;simp [h,List.getD]
   · have:¬ (j' < 1):=by omega
     simp [ej,this]
 · have:¬ i=i':=fun h=>e h.symm
   simp [e,this,List.getD,List.getElem?_set]
theorem rowSet_fI2 {l:List Int} {i k:Nat} {u v:Int} (h:i < l.length):rowSet (fI (l.set k u)) i 0 [.t (.v (.int .i64 v))]=fI ((l.set k u).set i v):=rowSet_fI (by rw [List.length_set];exact h)
@[go_sem] theorem rowOf_I1 (a:Int):rowOf 1 [.t (.v (.int .i64 a))]=fI [a]:=by
 funext i j;unfold rowOf fI
 rcases j with _|j
 · rcases i with _|i<;>simp [dfl,List.getD]
 · simp
@[go_sem] theorem rowOf_I2 (a b:Int):rowOf 1 [.t (.v (.int .i64 a)),.t (.v (.int .i64 b))]=fI [a,b]:=by
 funext i j;unfold rowOf fI
 rcases j with _|j
 · rcases i with _|_|i<;>simp [dfl,List.getD]<;>omega
 · simp
@[go_sem] theorem rowOf_I3 (a b c:Int):rowOf 1 [.t (.v (.int .i64 a)),.t (.v (.int .i64 b)),.t (.v (.int .i64 c))]=fI [a,b,c]:=by
 funext i j;unfold rowOf fI
 rcases j with _|j
 · rcases i with _|_|_|i<;>simp [dfl,List.getD]<;>omega
 · simp
@[go_sem] theorem rowOf_B1 (a:Bool):rowOf 1 [.t (.v (.bool a))]=fB [a]:=by
 funext i j;unfold rowOf fB
 rcases j with _|j
 · rcases i with _|i<;>simp [dfl,List.getD,nix]
 · simp
theorem rowOf_P1 (p:Packet):rowOf 7 (tab 7 0 fun j=>.t (p.tv j))=fP [p]:=by
 funext i j;unfold rowOf fP
 by_cases h:j < 7
 · rcases i with _|i
   · have h1:j < (tab 7 0 fun j=>Cell.t (p.tv j)).length:=by rw [tab_length];exact h
     have:(tab 7 0 fun j=>Cell.t (p.tv j)).getD j nix=.t (p.tv j):=by
       match j,h with
       | 0,_=>rfl
       | 1,_=>rfl
       | 2,_=>rfl
       | 3,_=>rfl
       | 4,_=>rfl
       | 5,_=>rfl
       | 6,_=>rfl
     simp only [Nat.zero_mul,Nat.zero_add,h,h1,if_true,this];rfl
   · have h1:¬ ((i+1) * 7+j < (tab 7 0 fun j=>Cell.t (p.tv j)).length):=by rw [tab_length];omega
     simp only [h,h1,if_true,if_false]
     match j,h with
     | 0,_=>rfl
     | 1,_=>rfl
     | 2,_=>rfl
     | 3,_=>rfl
     | 4,_=>rfl
     | 5,_=>rfl
     | 6,_=>rfl
 · simp only [h,if_false]
   match j,h with
   | j+7,_=>rfl
theorem rowOf_E1 (p:Event):rowOf 11 (tab 11 0 fun j=>.t (p.tv j))=fE [p]:=by
 funext i j;unfold rowOf fE
 by_cases h:j < 11
 · rcases i with _|i
   · have h1:j < (tab 11 0 fun j=>Cell.t (p.tv j)).length:=by rw [tab_length];exact h
     have:(tab 11 0 fun j=>Cell.t (p.tv j)).getD j nix=.t (p.tv j):=by
       match j,h with
       | 0,_=>rfl
       | 1,_=>rfl
       | 2,_=>rfl
       | 3,_=>rfl
       | 4,_=>rfl
       | 5,_=>rfl
       | 6,_=>rfl
       | 7,_=>rfl
       | 8,_=>rfl
       | 9,_=>rfl
       | 10,_=>rfl
     simp only [Nat.zero_mul,Nat.zero_add,h,h1,if_true,this];rfl
   · have h1:¬ ((i+1) * 11+j < (tab 11 0 fun j=>Cell.t (p.tv j)).length):=by rw [tab_length];omega
     simp only [h,h1,if_true,if_false]
     match j,h with
     | 0,_=>rfl
     | 1,_=>rfl
     | 2,_=>rfl
     | 3,_=>rfl
     | 4,_=>rfl
     | 5,_=>rfl
     | 6,_=>rfl
     | 7,_=>rfl
     | 8,_=>rfl
     | 9,_=>rfl
     | 10,_=>rfl
 · simp only [h,if_false]
   match j,h with
   | j+11,_=>rfl
@[go_sem] theorem rowOf_P (a b c d e f g:Int):rowOf 7 [.t (.v (.int .i64 a)),.t (.v (.int .i64 b)),.t (.v (.int .i64 c)),.t (.v (.int .i64 d)),.t (.v (.int .i64 e)),.t (.v (.int .i64 f)),.t (.v (.int .i64 g))]=fP [⟨a,b,c,d,e,f,g⟩]:=rowOf_P1 ⟨a,b,c,d,e,f,g⟩
@[go_sem] theorem rowOf_E (a b c d e f g h i j k:Int):rowOf 11 [.t (.v (.int .i64 a)),.t (.v (.int .i64 b)),.t (.v (.int .i64 c)),.t (.v (.int .i64 d)),.t (.v (.int .i64 e)),.t (.v (.int .i64 f)),.t (.v (.int .i64 g)),.t (.v (.int .i64 h)),.t (.v (.int .i64 i)),.t (.v (.int .i64 j)),.t (.v (.int .i64 k))]=fE [⟨a,b,c,d,⟨e,f,g,h,i,j,k⟩⟩]:=rowOf_E1 ⟨a,b,c,d,⟨e,f,g,h,i,j,k⟩⟩
@[go_sem] theorem make_I (n:Nat):AObj.row 1 n (mkF [.t (.v (.int .i64 0))])=.row 1 n (fI (List.replicate n 0)):=by
 congr 1
 funext i j;unfold mkF fI
 rcases j with _|j
 · simp only [List.getD,List.getElem?_cons_zero,Option.getD_some,if_true,List.getElem?_replicate];split<;>rfl
 · simp [nix]
section
variable {H:Heap} {fz:Nat→Prop} {τ:List (Nat × Nat)} {N wd n:Nat}
theorem rle_liftT {f:Nat→Nat→TV}:rle H fz τ N wd n (liftT f) (liftT f)=True:=by simp [rle,liftT,cle_t,tof_t,tle_refl]
@[go_sem] theorem rle_fI (l:List Int):rle H fz τ N wd n (fI l) (fI l)=True:=by rw [← row_tI];exact rle_liftT
@[go_sem] theorem rle_fB (l:List Bool):rle H fz τ N wd n (fB l) (fB l)=True:=by rw [← row_tB];exact rle_liftT
@[go_sem] theorem rle_fP (l:List Packet):rle H fz τ N wd n (fP l) (fP l)=True:=by rw [← row_tP];exact rle_liftT
@[go_sem] theorem rle_fS (l:List State):rle H fz τ N wd n (fS l) (fS l)=True:=by rw [← row_tS];exact rle_liftT
@[go_sem] theorem rle_fE (l:List Event):rle H fz τ N wd n (fE l) (fE l)=True:=by rw [← row_tE];exact rle_liftT
theorem tlr_liftT {f:Nat→Nat→TV} {m k:Nat}:tlr H fz k wd 0 m (liftT f) f=True:=by simp [tlr,liftT,tof_t,tle_refl]
@[go_sem] theorem tlr_fI (l:List Int) {m k:Nat}:tlr H fz k wd 0 m (fI l) (tI l)=True:=by rw [← row_tI];exact tlr_liftT
@[go_sem] theorem tlr_fB (l:List Bool) {m k:Nat}:tlr H fz k wd 0 m (fB l) (tB l)=True:=by rw [← row_tB];exact tlr_liftT
@[go_sem] theorem tlr_fP (l:List Packet) {m k:Nat}:tlr H fz k wd 0 m (fP l) (tP l)=True:=by rw [← row_tP];exact tlr_liftT
@[go_sem] theorem tlr_fS (l:List State) {m k:Nat}:tlr H fz k wd 0 m (fS l) (tS l)=True:=by rw [← row_tS];exact tlr_liftT
@[go_sem] theorem tlr_fE (l:List Event) {m k:Nat}:tlr H fz k wd 0 m (fE l) (tE l)=True:=by rw [← row_tE];exact tlr_liftT
end
theorem tP_eq (l:List Packet) (i j:Nat):tP l i j=(l.getD i default).tv j:=rfl
theorem tS_eq (l:List State) (i j:Nat):tS l i j=(l.getD i default).tv j:=rfl
theorem tC_eq (l:List Chain) (i j:Nat):tC l i j=(l.getD i default).tv j:=rfl
theorem tE_eq (l:List Event) (i j:Nat):tE l i j=(l.getD i default).tv j:=rfl
attribute [go_sem] tP_eq tS_eq tC_eq tE_eq
@[go_sem] theorem getD_zero_cons {α:Type} (x:α) (l:List α) (d:α):(x ::l).getD 0 d=x:=rfl
theorem flat_fI (l:List Int) (i j:Nat):(fI l i j).flat=True:=by unfold fI;split<;>simp [Cell.flat,nix]
theorem flat_fB (l:List Bool) (i j:Nat):(fB l i j).flat=True:=by unfold fB;split<;>simp [Cell.flat,nix]
theorem flat_tv {p:Packet}:∀ j,(Cell.t (p.tv j)).flat
 | 0=>trivial
 | 1=>trivial
 | 2=>trivial
 | 3=>trivial
 | 4=>trivial
 | 5=>trivial
 | 6=>trivial
 | _+7=>trivial
theorem flat_fP (l:List Packet) (i j:Nat):(fP l i j).flat=True:=eq_true (flat_tv j)
theorem flat_etv {p:Event}:∀ j,(Cell.t (p.tv j)).flat
 | 0=>trivial
 | 1=>trivial
 | 2=>trivial
 | 3=>trivial
 | 4=>trivial
 | 5=>trivial
 | 6=>trivial
 | 7=>trivial
 | 8=>trivial
 | 9=>trivial
 | 10=>trivial
 | _+11=>trivial
theorem flat_fE (l:List Event) (i j:Nat):(fE l i j).flat=True:=eq_true (flat_etv j)
@[go_sem] theorem rflat_fI (l:List Int) {wd n:Nat}:rflat wd n (fI l)=True:=by simp [rflat,flat_fI]
@[go_sem] theorem rflat_fB (l:List Bool) {wd n:Nat}:rflat wd n (fB l)=True:=by simp [rflat,flat_fB]
@[go_sem] theorem rflat_fP (l:List Packet) {wd n:Nat}:rflat wd n (fP l)=True:=by simp [rflat,flat_fP]
@[go_sem] theorem rflat_fE (l:List Event) {wd n:Nat}:rflat wd n (fE l)=True:=by simp [rflat,flat_fE]
attribute [go_sem] Option.some.injEq exists_eq' exists_eq_left exists_eq_left' List.length_append List.length_set List.length_cons List.length_nil List.length_replicate
def bankA (b:Bank) (h:Nat):List Cell:=[.sl h 1 0 b.own.length,.sl (h+1) 1 0 b.notes.length,.t (.v (.int .i64 b.locked))]
def bankH (b:Bank) (h:Nat):Heap:=[(h,rI b.own),(h+1,rI b.notes)]
def stateA (s:State) (h:Nat):List Cell:=[.t (.v (.int .i64 s.way)),.t (.v (.int .i64 s.ver)),.t (.v (.int .i64 s.want)),.sl h 7 0 s.sent.length,.sl (h+1) 1 0 s.live.length,.sl (h+2) 1 0 s.back.length,.sl (h+3) 1 0 s.got.length]
def stateH (s:State) (h:Nat):Heap:=[(h,rP s.sent),(h+1,rB s.live),(h+2,rB s.back),(h+3,rI s.got)]
def chainA (c:Chain) (h:Nat):List Cell:=.t (.v (.int .i64 c.id)) ::(bankA c.bank h++(stateA c.state (h+2)++[.sl (h+6) 7 0 c.past.length,.sl (h+7) 1 0 c.knows.length]))
def chainH (c:Chain) (h:Nat):Heap:=bankH c.bank h++(stateH c.state (h+2)++[(h+6,rS c.past),(h+7,rI c.knows)])
def worldA (h:Nat):List Cell:=[.sl h 13 0 2]
def worldH (w:Two) (h:Nat):Heap:=(h,.box (chainA w.a (h+1)++chainA w.b (h+9))) ::(chainH w.a (h+1)++chainH w.b (h+9))
attribute [go_sem] bankA bankH stateA stateH chainA chainH worldA worldH
end Go.Hw
namespace Go.Hw
theorem parts_iff {l:List Int}:parts l=true ↔ ∃ a b c,l=[a,b,c]∧(0≤a∧a≤30)∧(0≤b∧b≤30)∧(0≤c∧c≤30):=by
 constructor
 · intro h
   have hl:=parts_len h
   match l,hl with
   | [a,b,c],_=>exact ⟨a,b,c,rfl,parts_get h 0,parts_get h 1,parts_get h 2⟩
 · rintro ⟨a,b,c,rfl,h1,h2,h3⟩
   simp only [parts,rall,List.length_cons,List.length_nil,Bool.and_eq_true,decide_eq_true_eq]
   refine ⟨?_,by simp⟩
   rw [List.all_eq_true]
   intro i hi
   simp at hi
   match i,hi with
   | 0,_=>simpa [In] using h1
   | 1,_=>simpa [In] using h2
   | 2,_=>simpa [In] using h3
theorem isum3 (a b c:Int):isum [a,b,c]=a+b+c:=by simp [isum]
theorem bank_iff {b:Bank}:b.ok=true ↔ parts b.own=true∧parts b.notes=true∧0≤b.locked∧isum b.own+b.locked=30∧isum b.notes≤30:=by simp [Bank.ok]
theorem user_ix {u:Int} (h:In u 1 3=true):(u - 1).toNat=0 ∨ (u - 1).toNat=1 ∨ (u - 1).toNat=2:=by rw [In_iff] at h;omega
theorem awayD_ok {b:Bank} {kind src sum:Int} (h:b.ok=true) (hs:In src 1 3=true) (h0:0≤sum) (hA:b.awayB kind src sum=true):(b.awayD kind src sum).ok=true:=by
 rw [bank_iff] at *
 obtain ⟨p1,p2,h1,h2,h3⟩:=h
 obtain ⟨a1,a2,a3,e1,r1,r2,r3⟩:=parts_iff.1 p1
 obtain ⟨c1,c2,c3,e2,s1,s2,s3⟩:=parts_iff.1 p2
 obtain ⟨own,notes,locked⟩:=b
 simp only at e1 e2 h1 h2 h3
 subst e1;subst e2
 rw [isum3] at h2 h3
 simp only [Bank.awayB,Bank.at,Bank.list,decide_eq_true_eq] at hA
 unfold Bank.awayD
 by_cases hk:kind=1
 · rw [if_pos hk] at hA ⊢
   rcases user_ix hs with e|e|e<;>rw [e] at hA<;>simp only [Bank.dec,Bank.put,Bank.list,Bank.at,if_pos hk,e,List.set_cons_zero,List.set_cons_succ,List.getD_cons_zero,List.getD_cons_succ,parts_iff] at hA ⊢ <;>
     (refine ⟨⟨_,_,_,rfl,?_,?_,?_⟩,⟨_,_,_,rfl,?_,?_,?_⟩,?_,?_,?_⟩<;>(try simp only [isum3])<;>omega)
 · rw [if_neg hk] at hA ⊢
   rcases user_ix hs with e|e|e<;>rw [e] at hA<;>simp only [Bank.dec,Bank.put,Bank.list,Bank.at,if_neg hk,e,List.set_cons_zero,List.set_cons_succ,List.getD_cons_zero,List.getD_cons_succ,parts_iff] at hA ⊢ <;>
     (refine ⟨⟨_,_,_,rfl,?_,?_,?_⟩,⟨_,_,_,rfl,?_,?_,?_⟩,?_,?_,?_⟩<;>(try simp only [isum3])<;>omega)
theorem backD_ok {b:Bank} {kind dst sum:Int} (h:b.ok=true) (hs:In dst 1 3=true) (hk:In kind 1 2=true) (h0:0≤sum) (hA:b.backB kind dst sum=true):(b.backD kind dst sum).ok=true:=by
 rw [bank_iff] at *
 obtain ⟨p1,p2,h1,h2,h3⟩:=h
 obtain ⟨a1,a2,a3,e1,r1,r2,r3⟩:=parts_iff.1 p1
 obtain ⟨c1,c2,c3,e2,s1,s2,s3⟩:=parts_iff.1 p2
 obtain ⟨own,notes,locked⟩:=b
 simp only at e1 e2 h1 h2 h3
 subst e1;subst e2
 rw [isum3] at h2 h3
 rw [In_iff] at hk
 unfold Bank.backD
 by_cases hk1:kind=1
 · have hA':sum≤locked:=by simpa [Bank.backB,hk1] using hA
   rw [if_pos hk1]
   rcases user_ix hs with e|e|e<;>simp only [Bank.add,Bank.put,Bank.list,Bank.at,if_pos hk1,e,List.set_cons_zero,List.set_cons_succ,List.getD_cons_zero,List.getD_cons_succ,parts_iff] <;>
     (refine ⟨⟨_,_,_,rfl,?_,?_,?_⟩,⟨_,_,_,rfl,?_,?_,?_⟩,?_,?_,?_⟩<;>(try simp only [isum3])<;>omega)
 · have hk2:kind=2:=by omega
   have hA':isum [c1,c2,c3]+sum≤30:=by simpa [Bank.backB,hk2] using hA
   rw [isum3] at hA'
   rw [if_neg hk1]
   rcases user_ix hs with e|e|e<;>simp only [Bank.add,Bank.put,Bank.list,Bank.at,if_neg hk1,e,List.set_cons_zero,List.set_cons_succ,List.getD_cons_zero,List.getD_cons_succ,parts_iff] <;>
     (refine ⟨⟨_,_,_,rfl,?_,?_,?_⟩,⟨_,_,_,rfl,?_,?_,?_⟩,?_,?_,?_⟩<;>(try simp only [isum3])<;>omega)
theorem back_ok {b:Bank} {kind dst sum:Int} (h:b.ok=true) (hs:In dst 1 3=true) (hk:In kind 1 2=true) (h0:0≤sum):(b.back kind dst sum).ok=true:=by
 unfold Bank.back
 split
 · exact backD_ok h hs hk h0 ‹_›
 · exact h
theorem moveD_ok {b:Bank} {kind src dst sum:Int} (hm:b.moveB kind src dst sum=true):(b.moveD kind src dst sum).ok=true:=by
 simp only [Bank.moveB,Bool.and_eq_true,decide_eq_true_eq] at hm
 obtain ⟨h,hk,hs,hd,h0,hA⟩:=hm
 simp only [Bank.at,Bank.list] at hA
 rw [bank_iff] at *
 obtain ⟨p1,p2,h1,h2,h3⟩:=h
 obtain ⟨a1,a2,a3,e1,r1,r2,r3⟩:=parts_iff.1 p1
 obtain ⟨c1,c2,c3,e2,s1,s2,s3⟩:=parts_iff.1 p2
 obtain ⟨own,notes,locked⟩:=b
 simp only at e1 e2 h1 h2 h3
 subst e1;subst e2
 rw [isum3] at h2 h3
 unfold Bank.moveD
 by_cases hk1:kind=1
 · rw [if_pos hk1] at hA
   rcases user_ix hs with e|e|e<;>rcases user_ix hd with e'|e'|e'<;>rw [e] at hA<;>simp only [Bank.dec,Bank.add,Bank.put,Bank.list,Bank.at,if_pos hk1,e,e',List.set_cons_zero,List.set_cons_succ,List.getD_cons_zero,List.getD_cons_succ,parts_iff] at hA ⊢ <;>
     (refine ⟨⟨_,_,_,rfl,?_,?_,?_⟩,⟨_,_,_,rfl,?_,?_,?_⟩,?_,?_,?_⟩<;>(try simp only [isum3])<;>omega)
 · rw [if_neg hk1] at hA
   rcases user_ix hs with e|e|e<;>rcases user_ix hd with e'|e'|e'<;>rw [e] at hA<;>simp only [Bank.dec,Bank.add,Bank.put,Bank.list,Bank.at,if_neg hk1,e,e',List.set_cons_zero,List.set_cons_succ,List.getD_cons_zero,List.getD_cons_succ,parts_iff] at hA ⊢ <;>
     (refine ⟨⟨_,_,_,rfl,?_,?_,?_⟩,⟨_,_,_,rfl,?_,?_,?_⟩,?_,?_,?_⟩<;>(try simp only [isum3])<;>omega)
theorem packet_iff {p:Packet}:p.ok=true ↔ (1≤p.seq∧p.seq≤8)∧(1≤p.kind∧p.kind≤2)∧(1≤p.src∧p.src≤3)∧(0≤p.dst∧p.dst≤3)∧(1≤p.sum∧p.sum≤9)∧(1≤p.till∧p.till≤90)∧(1≤p.ver∧p.ver≤9):=by
 simp only [Packet.ok,Bool.and_eq_true,In_iff]
theorem state_iff {s:State}:s.ok=true ↔ (0≤s.way∧s.way≤4)∧(1≤s.ver∧s.ver≤9)∧s.sent.length≤8∧s.live.length=s.sent.length∧s.back.length=s.sent.length∧s.got.length=8 ∧
   (∀ i,i < s.sent.length→s.sentOk i=true)∧(∀ i,i < 8→0≤s.got.getD i 0∧s.got.getD i 0≤2)∧(if s.way=4 then s.want=s.ver+1∧s.want≤9 else s.want=0):=by
 refine ⟨state_ok,?_⟩
 rintro ⟨h1,h2,h3,h4,h5,h6,h7,h8,h9⟩
 simp only [State.ok,Bool.and_eq_true,decide_eq_true_eq,In_iff,rall_iff]
 refine ⟨h1,h2,by omega,by omega,by omega,by omega,h7,fun i hi=>h8 i (by omega),?_⟩
 split at h9
 · rename_i hw;simp [hw,h9];omega
 · rename_i hw;simp [hw,h9]
theorem sentOk_mk {s:State} {i:Nat} (h1:(s.sent.getD i default).ok=true) (h2:(s.sent.getD i default).seq=(i:Int)+1) (h3:s.live.getD i false=false ∨ s.back.getD i false=false) (h4:(s.sent.getD i default).ver≤s.ver):s.sentOk i=true:=by
 simpa [-List.getD_eq_getElem?_getD,State.sentOk] using ⟨h1,h2,h3,h4⟩
theorem getD_set {α:Type} (l:List α) (i j:Nat) (v d:α):(l.set i v).getD j d=if i=j∧i < l.length then v else l.getD j d:=by
 simp only [List.getD,List.getElem?_set]
 by_cases h:i=j
 · subst h
   by_cases h2:i < l.length
   · simp [h2]
   · have:l[i]? = none:=List.getElem?_eq_none (by omega)
     simp [h2,this]
 · simp [h]
theorem getD_snoc {α:Type} (l:List α) (v d:α) (j:Nat) (hj:j < l.length+1):(l++[v]).getD j d=if j < l.length then l.getD j d else v:=by
 simp only [List.getD,List.getElem?_append]
 by_cases h:j < l.length
 · simp [h]
 · have:j=l.length:=by omega
   subst this;simp
theorem knows_iff {l:List Int}:(∀ i,i < l.length→knowOk l i=true) ↔ (∀ x ∈ l,1≤x∧x≤90)∧l.Pairwise (· < ·):=by
 constructor
 · intro h
   have hstep:∀ i,i+1 < l.length→l.getD i 0 < l.getD (i+1) 0:=by
     intro i hi
     have h2:=h (i+1) hi
     have e:(((i+1:Nat):Int) - 1).toNat=i:=by omega
     simp only [knowOk,e,Bool.and_eq_true,In_iff,Bool.not_eq_true',Bool.and_eq_false_iff,decide_eq_false_iff_not] at h2
     omega
   have hlt:∀ i k,i+k+1 < l.length→l.getD i 0 < l.getD (i+k+1) 0:=by
     intro i k
     induction k with
     | zero=>intro hi;exact hstep i hi
     | succ k ih =>
       intro hi
       have:=ih (by omega)
       have:=hstep (i+k+1) (by omega)
       rw [show i+(k+1)+1=i+k+1+1 from by omega]
       omega
   refine ⟨?_,?_⟩
   · intro x hx
     obtain ⟨i,hi,e⟩:=List.getElem_of_mem hx
     have:=h i hi
     simp only [knowOk,Bool.and_eq_true,In_iff] at this
     have e2:l.getD i 0=x:=by simp [List.getD,hi,e]
     omega
   · rw [List.pairwise_iff_getElem]
     intro i j hi hj hij
     have:=hlt i (j - i - 1) (by omega)
     rw [show i+(j - i - 1)+1=j from by omega] at this
     simpa [List.getD,hi,hj] using this
 · rintro ⟨h1,h2⟩ i hi
   have e:l.getD i 0=l[i]:=by simp [List.getD,hi]
   simp only [knowOk,Bool.and_eq_true,In_iff,Bool.not_eq_true',Bool.and_eq_false_iff,decide_eq_false_iff_not]
   refine ⟨by rw [e];exact h1 _ (List.getElem_mem hi),?_⟩
   by_cases h0:i=0
   · left;omega
   · right
     have e2:((i:Int) - 1).toNat=i - 1:=by omega
     rw [e2]
     have e3:l.getD (i - 1) 0=l[i - 1]:=by simp [List.getD,show i - 1 < l.length from by omega]
     rw [e,e3]
     have:=List.pairwise_iff_getElem.1 h2 (i - 1) i (by omega) hi (by omega)
     omega
theorem chain_iff {c:Chain}:c.ok=true ↔ (1≤c.id∧c.id≤2)∧c.bank.ok=true∧c.state.ok=true∧c.past.length≤90∧(∀ i,i < c.past.length→(c.past.getD i default).ok=true)∧(∀ i,i < c.knows.length→knowOk c.knows i=true):=by
 refine ⟨chain_ok,?_⟩
 rintro ⟨h1,h2,h3,h4,h5,h6⟩
 simp only [Chain.ok,Bool.and_eq_true,decide_eq_true_eq,In_iff,rall_iff]
 exact ⟨h1,h2,h3,by omega,h5,h6⟩
theorem block_ok {c:Chain} (h:c.ok=true):c.block.ok=true:=by
 unfold Chain.block
 split
 · rw [chain_iff] at *
   obtain ⟨h1,h2,h3,h4,h5,h6⟩:=h
   refine ⟨h1,h2,h3,by simp;omega,fun i hi=>?_,h6⟩
   simp at hi
   rw [getD_snoc _ _ _ _ hi]
   split
   · exact h5 i ‹_›
   · exact h3
 · exact h
theorem know_ok {c o:Chain} {x:Int} (h:c.ok=true) (ho:o.past.length≤90):(c.know o x).ok=true:=by
 unfold Chain.know
 split
 · rename_i hB
   simp only [Chain.knowB,Bool.and_eq_true,In_iff,Bool.not_eq_true'] at hB
   rw [chain_iff] at *
   obtain ⟨h1,h2,h3,h4,h5,h6⟩:=h
   refine ⟨h1,h2,h3,h4,h5,?_⟩
   rw [knows_iff] at *
   obtain ⟨g1,g2⟩:=h6
   refine ⟨?_,?_⟩
   · intro y hy
     simp only [List.mem_append,List.mem_cons,List.mem_filter] at hy
     rcases hy with hy|rfl|hy
     · exact g1 y hy.1
     · omega
     · exact g1 y hy.1
   · rw [List.pairwise_append]
     refine ⟨g2.sublist List.filter_sublist,?_,?_⟩
     · rw [List.pairwise_cons]
       refine ⟨fun y hy=>?_,g2.sublist List.filter_sublist⟩
       simpa using (List.mem_filter.1 hy).2
     · intro y hy z hz
       have hy':y < x:=by simpa using (List.mem_filter.1 hy).2
       rcases List.mem_cons.1 hz with rfl|hz
       · exact hy'
       · have hz':x < z:=by simpa using (List.mem_filter.1 hz).2
         omega
 · exact h
theorem send_ok {c:Chain} {kind src dst sum till:Int} (h:c.ok=true):(c.send kind src dst sum till).ok=true:=by
 unfold Chain.send
 split
 · rename_i hB
   simp only [Chain.sendB,Bool.and_eq_true,decide_eq_true_eq] at hB
   obtain ⟨hw,hp,hA⟩:=hB
   have hp':=packet_iff.1 hp
   simp only [Chain.packet] at hp'
   rw [chain_iff] at *
   obtain ⟨h1,h2,h3,h4,h5,h6⟩:=h
   refine ⟨h1,awayD_ok h2 (by rw [In_iff];omega) (by omega) hA,?_,h4,h5,h6⟩
   rw [state_iff] at *
   obtain ⟨r1,r2,r3,r4,r5,r6,r7,r8,r9⟩:=h3
   refine ⟨r1,r2,by simp [Chain.sendD];omega,by simp [Chain.sendD,r4],by simp [Chain.sendD,r5],r6,?_,r8,r9⟩
   intro i hi
   simp [Chain.sendD] at hi
   have g1:(c.sendD kind src dst sum till).state.sent.getD i default=if i < c.state.sent.length then c.state.sent.getD i default else c.packet kind src dst sum till:=getD_snoc _ _ _ _ hi
   have g2:(c.sendD kind src dst sum till).state.live.getD i false=if i < c.state.live.length then c.state.live.getD i false else true:=getD_snoc _ _ _ _ (by omega)
   have g3:(c.sendD kind src dst sum till).state.back.getD i false=if i < c.state.back.length then c.state.back.getD i false else false:=getD_snoc _ _ _ _ (by omega)
   have g4:(c.sendD kind src dst sum till).state.ver=c.state.ver:=rfl
   by_cases hl:i < c.state.sent.length
   · obtain ⟨s1,s2,s3,s4⟩:=sentOk_iff (r7 i hl)
     rw [if_pos hl] at g1;rw [if_pos (by omega)] at g2 g3
     exact sentOk_mk (by rw [g1];exact s1) (by rw [g1];exact s2) (by rw [g2,g3];exact s3) (by rw [g1,g4];exact s4)
   · rw [if_neg hl] at g1;rw [if_neg (by omega)] at g2 g3
     refine sentOk_mk (by rw [g1];exact hp) (by rw [g1];simp only [Chain.packet];omega) (.inr g3) (by rw [g1,g4];simp [Chain.packet])
 · exact h
theorem otherK_in {k:Int} (h:1≤k∧k≤2):In (otherK k) 1 2=true:=by rw [In_iff];unfold otherK;split<;>omega
theorem get_ok {c:Chain} {s:State} {p:Packet} (h:c.ok=true) (hp:p.ok=true):(c.get s p).ok=true:=by
 unfold Chain.get
 split
 · have hp':=packet_iff.1 hp
   rw [chain_iff] at *
   obtain ⟨h1,h2,h3,h4,h5,h6⟩:=h
   refine ⟨h1,?_,?_,h4,h5,h6⟩
   · show (if payB c.bank p then _ else _:Bank).ok=true
     split
     · rename_i hb
       simp only [payB,Bool.and_eq_true,decide_eq_true_eq] at hb
       exact backD_ok h2 (by rw [In_iff];omega) (otherK_in hp'.2.1) (by omega) hb.2
     · exact h2
   · rw [state_iff] at *
     obtain ⟨r1,r2,r3,r4,r5,r6,r7,r8,r9⟩:=h3
     refine ⟨r1,r2,r3,r4,r5,by simp [Chain.getD,r6],r7,?_,r9⟩
     intro i hi
     show 0≤(c.state.got.set _ _).getD i 0∧(c.state.got.set _ _).getD i 0≤2
     rw [getD_set]
     split
     · split<;>omega
     · exact r8 i hi
 · exact h
theorem settle_ok {c:Chain} {seq:Int} {bk:Bool} (h:c.ok=true) (hm:c.mine seq=true):(c.settle seq bk).ok=true:=by
 simp only [Chain.mine,Bool.and_eq_true,In_iff] at hm
 rw [chain_iff] at *
 obtain ⟨h1,h2,h3,h4,h5,h6⟩:=h
 have h3':=h3
 rw [state_iff] at h3'
 obtain ⟨r1,r2,r3,r4,r5,r6,r7,r8,r9⟩:=h3'
 obtain ⟨s1,s2,s3,s4⟩:=sentOk_iff (r7 (seq - 1).toNat (by omega))
 have hp:=packet_iff.1 s1
 refine ⟨h1,?_,?_,h4,h5,h6⟩
 · show (if bk then c.bank.refund (c.sentAt seq) else c.bank).ok=true
   split
   · exact back_ok h2 (by rw [In_iff];exact hp.2.2.1) (by rw [In_iff];exact hp.2.1) (by have:=hp.2.2.2.2.1;simp only [Chain.sentAt];omega)
   · exact h2
 · rw [state_iff]
   refine ⟨r1,r2,r3,by simp [Chain.settle,r4],?_,r6,?_,r8,r9⟩
   · show (if bk then c.state.back.set _ true else c.state.back).length=_
     split<;>simp [r5,Chain.settle]
   · intro i hi
     obtain ⟨t1,t2,t3,t4⟩:=sentOk_iff (r7 i hi)
     refine sentOk_mk t1 t2 ?_ t4
     show (c.state.live.set _ false).getD i false=false ∨ (if bk then c.state.back.set _ true else c.state.back).getD i false=false
     rw [getD_set]
     by_cases e:(seq - 1).toNat=i∧(seq - 1).toNat < c.state.live.length
     · rw [if_pos e];exact .inl rfl
     · rw [if_neg e]
       rcases t3 with t3|t3
       · exact .inl t3
       · right
         split
         · rw [getD_set,if_neg (by omega)];exact t3
         · exact t3
theorem tell_ok {c:Chain} {s:State} {seq:Int} (h:c.ok=true):(c.tell s seq).ok=true:=by
 unfold Chain.tell
 split
 · rename_i hB
   simp only [Chain.tellB,Bool.and_eq_true] at hB
   exact settle_ok h hB.1
 · exact h
theorem late_ok {c:Chain} {s:State} {x seq:Int} (h:c.ok=true):(c.late s x seq).ok=true:=by
 unfold Chain.late
 split
 · rename_i hB
   simp only [Chain.lateB,Bool.and_eq_true] at hB
   exact settle_ok h hB.1
 · exact h
theorem wayDo_ok {s o:State} {n:Int} (h:s.ok=true) (ho:o.ok=true) (hm:wayMay s o n=true):(wayDo s o n).ok=true:=by
 rw [state_iff] at *
 obtain ⟨r1,r2,r3,r4,r5,r6,r7,r8,r9⟩:=h
 obtain ⟨t1,t2,t3,t4,t5,t6,t7,t8,t9⟩:=ho
 unfold wayMay at hm
 unfold wayDo
 by_cases k1:n=1
 · subst k1
   have hw:s.way=0:=by simpa using hm
   simp only [hw] at r9
   exact ⟨by simp,r2,r3,r4,r5,r6,r7,r8,by simpa using r9⟩
 by_cases k2:n=2
 · subst k2
   have hw:s.way≤1:=by simp at hm;exact hm.1
   rw [if_neg (by omega)] at r9
   exact ⟨by simp,r2,r3,r4,r5,r6,r7,r8,by simpa using r9⟩
 by_cases k3:n=3
 · subst k3
   have hw:s.way=1:=by simp at hm;exact hm.1
   rw [if_neg (by omega)] at r9
   exact ⟨by simp,r2,r3,r4,r5,r6,r7,r8,by simpa using r9⟩
 by_cases k4:n=4
 · subst k4
   have hw:s.way=2:=by simp at hm;exact hm.1
   rw [if_neg (by omega)] at r9
   exact ⟨by simp,r2,r3,r4,r5,r6,r7,r8,by simpa using r9⟩
 by_cases k5:n=5
 · subst k5
   have hw:s.way=3∧s.ver < 9:=by simpa using hm
   exact ⟨by simp,r2,r3,r4,r5,r6,r7,r8,by simp;omega⟩
 by_cases k6:n=6
 · subst k6
   have hw:s.way=3∧o.way=4∧o.want=s.ver+1:=by simpa using hm
   rw [if_pos hw.2.1] at t9
   exact ⟨by simp,r2,r3,r4,r5,r6,r7,r8,by simp;omega⟩
 by_cases k7:n=7
 · subst k7
   have hw:s.way=4:=by simp at hm;exact hm.1
   rw [if_pos hw] at r9
   refine ⟨by simp,by simp;omega,r3,r4,r5,r6,?_,r8,by simp⟩
   intro i hi
   obtain ⟨a1,a2,a3,a4⟩:=sentOk_iff (r7 i hi)
   refine sentOk_mk a1 a2 a3 ?_
   show (s.sent.getD i default).ver≤s.want
   omega
 · simp [k1,k2,k3,k4,k5,k6,k7] at hm
theorem step_ok {c:Chain} {s:State} {n:Int} (h:c.ok=true) (hs:s.ok=true):(c.step s n).ok=true:=by
 unfold Chain.step
 split
 · rw [chain_iff] at *
   obtain ⟨h1,h2,h3,h4,h5,h6⟩:=h
   exact ⟨h1,h2,wayDo_ok h3 hs ‹_›,h4,h5,h6⟩
 · exact h
theorem move_ok {c:Chain} {kind src dst sum:Int} (h:c.ok=true):(c.move kind src dst sum).ok=true:=by
 unfold Chain.move
 split
 · rw [chain_iff] at *
   obtain ⟨h1,h2,h3,h4,h5,h6⟩:=h
   exact ⟨h1,moveD_ok ‹_›,h3,h4,h5,h6⟩
 · exact h
theorem relay_at {c o:Chain} {x:Int} (h:c.ok=true) (ho:o.ok=true) (hB:c.relayB o x=true):1≤x∧x≤o.past.length∧(o.at x).ok=true:=by
 simp only [Chain.relayB,Bool.and_eq_true,decide_eq_true_eq] at hB
 rw [chain_iff] at *
 obtain ⟨h1,h2,h3,h4,h5,h6⟩:=h
 obtain ⟨g1,g2,g3,g4,g5,g6⟩:=ho
 have hm:x ∈ c.knows:=by simpa using hB.1
 have:=(knows_iff.1 h6).1 x hm
 exact ⟨by omega,hB.2,g5 _ (by omega)⟩
theorem on_ok {c o:Chain} {e:Event} (h:c.ok=true) (ho:o.ok=true):(c.on o e).ok=true:=by
 have ho':=ho
 rw [chain_iff] at ho'
 unfold Chain.on
 split;· exact block_ok h
 split;· exact know_ok h ho'.2.2.2.1
 split;· exact send_ok h
 split;· exact move_ok h
 split;· exact step_ok h (by decide)
 unfold Chain.relay
 split
 · rename_i hB
   obtain ⟨x1,x2,x3⟩:=relay_at h ho hB
   split
   · split
     · exact get_ok h ‹_›
     · exact h
   split;· exact tell_ok h
   split;· exact late_ok h
   split;· exact step_ok h x3
   exact h
 · exact h
theorem two_on_ok {w:Two} {e:Event} (h:w.a.ok=true∧w.b.ok=true):(w.on e).a.ok=true∧(w.on e).b.ok=true:=by
 unfold Two.on
 split
 · exact ⟨on_ok h.1 h.2,h.2⟩
 split
 · exact ⟨h.1,on_ok h.2 h.1⟩
 · exact h
end Go.Hw
namespace Go.Hw
def kAll (c o:Chain):Prop:=∀ x ∈ c.knows,x≤(o.past.length:Int)
theorem kOk_iff {c o:Chain} (h:c.knows.Pairwise (· < ·)):kOk c o=true ↔ kAll c o:=by
 unfold kOk kAll
 simp only [Bool.not_eq_true',Bool.and_eq_false_iff,decide_eq_false_iff_not]
 generalize c.knows=l at h
 constructor
 · intro h1 x hx
   obtain ⟨i,hi,rfl⟩:=List.mem_iff_getElem.1 hx
   have e:l.getD ((l.length:Int) - 1).toNat 0=l[l.length - 1]:=by
     have:((l.length:Int) - 1).toNat=l.length - 1:=by omega
     rw [this];unfold List.getD;rw [List.getElem?_eq_getElem (by omega)];rfl
   rw [e] at h1
   have h2:l[l.length - 1]≤(o.past.length:Int):=by omega
   by_cases hl:i=l.length - 1
   · subst hl;exact h2
   · have:=List.pairwise_iff_getElem.1 h i (l.length - 1) hi (by omega) (by omega)
     omega
 · intro h1
   by_cases h0:0 < l.length
   · right
     have e:l.getD ((l.length:Int) - 1).toNat 0=l[l.length - 1]:=by
       have:((l.length:Int) - 1).toNat=l.length - 1:=by omega
       rw [this];unfold List.getD;rw [List.getElem?_eq_getElem (by omega)];rfl
     rw [e]
     have:=h1 _ (List.getElem_mem (l:=l) (n:=l.length - 1) (by omega))
     omega
   · left;omega
theorem step_past {c:Chain} {s:State} {n:Int}:(c.step s n).past=c.past∧(c.step s n).knows=c.knows∧(c.step s n).id=c.id:=by
 unfold Chain.step;split<;>exact ⟨rfl,rfl,rfl⟩
theorem on_past {c o:Chain} {e:Event}:(c.on o e).id=c.id∧((c.on o e).past=c.past ∨ (e.kind=1∧(c.on o e).past=c.past++[c.state]))∧((c.on o e).knows=c.knows ∨ c.knowB o e.height=true∧(c.on o e).knows=c.knows.filter (fun x=>decide (x < e.height))++e.height ::c.knows.filter (fun x=>decide (e.height < x))):=by
 unfold Chain.on
 split
 · unfold Chain.block;split<;>simp [*]
 split
 · unfold Chain.know;split
   · exact ⟨rfl,.inl rfl,.inr ⟨by assumption,rfl⟩⟩
   · exact ⟨rfl,.inl rfl,.inl rfl⟩
 split
 · unfold Chain.send;split<;>exact ⟨rfl,.inl rfl,.inl rfl⟩
 split
 · unfold Chain.move;split<;>exact ⟨rfl,.inl rfl,.inl rfl⟩
 split
 · exact ⟨step_past.2.2,.inl step_past.1,.inl step_past.2.1⟩
 unfold Chain.relay
 split
 · split
   · split
     · unfold Chain.get;split<;>exact ⟨rfl,.inl rfl,.inl rfl⟩
     · exact ⟨rfl,.inl rfl,.inl rfl⟩
   split
   · unfold Chain.tell;split<;>exact ⟨rfl,.inl rfl,.inl rfl⟩
   split
   · unfold Chain.late;split<;>exact ⟨rfl,.inl rfl,.inl rfl⟩
   split
   · exact ⟨step_past.2.2,.inl step_past.1,.inl step_past.2.1⟩
   · exact ⟨rfl,.inl rfl,.inl rfl⟩
 · exact ⟨rfl,.inl rfl,.inl rfl⟩
theorem on_past_len {c o:Chain} {e:Event}:c.past.length≤(c.on o e).past.length:=by
 rcases (on_past (c:=c) (o:=o) (e:=e)).2.1 with h|⟨_,h⟩<;>rw [h]
 · exact Nat.le_refl _
 · simp
theorem on_kAll {c o:Chain} {e:Event} (h:kAll c o):kAll (c.on o e) o:=by
 rcases (on_past (c:=c) (o:=o) (e:=e)).2.2 with h2|⟨hb,h2⟩<;>unfold kAll<;>rw [h2]
 · exact h
 · intro x hx
   simp only [List.mem_append,List.mem_cons,List.mem_filter] at hx
   rcases hx with hx|rfl|hx
   · exact h x hx.1
   · unfold Chain.knowB at hb
     simp only [Bool.and_eq_true,In_iff] at hb
     exact hb.1.2
   · exact h x hx.1
theorem kAll_mono {c o o':Chain} (h:kAll c o) (hl:o.past.length≤o'.past.length):kAll c o':=fun x hx=>by have:=h x hx;omega
theorem wOk_iff {a b:Chain}:wOk [a,b]=true ↔ a.ok=true∧b.ok=true∧a.id=1∧b.id=2∧kAll a b∧kAll b a:=by
 have e:wOk [a,b]=true ↔ a.ok=true∧a.id=1∧kOk a b=true∧b.ok=true∧b.id=2∧kOk b a=true:=by
   simp [wOk,List.getD]
 rw [e]
 constructor
 · rintro ⟨h1,h2,h3,h4,h5,h6⟩
   have p1:=(knows_iff.1 (chain_iff.1 h1).2.2.2.2.2).2
   have p2:=(knows_iff.1 (chain_iff.1 h4).2.2.2.2.2).2
   exact ⟨h1,h4,h2,h5,(kOk_iff p1).1 h3,(kOk_iff p2).1 h6⟩
 · rintro ⟨h1,h2,h3,h4,h5,h6⟩
   have p1:=(knows_iff.1 (chain_iff.1 h1).2.2.2.2.2).2
   have p2:=(knows_iff.1 (chain_iff.1 h2).2.2.2.2.2).2
   exact ⟨h1,h3,(kOk_iff p1).2 h5,h2,h4,(kOk_iff p2).2 h6⟩
theorem two_on_wOk {w:Two} {e:Event} (h:wOk w.list=true):wOk (w.on e).list=true:=by
 obtain ⟨h1,h2,h3,h4,h5,h6⟩:=wOk_iff.1 h
 have ho:=two_on_ok (w:=w) (e:=e) ⟨h1,h2⟩
 refine wOk_iff.2 ⟨ho.1,ho.2,?_⟩
 unfold Two.on
 split
 · exact ⟨by rw [on_past.1];exact h3,h4,on_kAll h5,kAll_mono h6 on_past_len⟩
 split
 · exact ⟨h3,by rw [on_past.1];exact h4,kAll_mono h5 on_past_len,on_kAll h6⟩
 · exact ⟨h3,h4,h5,h6⟩
theorem two_new_wOk:wOk Two.new.list=true:=by decide
end Go.Hw
namespace Go.Hw
structure Mono (a b:State):Prop where
 ver:a.ver≤b.ver
 way:b.ver=a.ver→a.way≤b.way
 opn:3≤a.way→3≤b.way
 tri:2≤a.way→2≤b.way
 len:a.sent.length≤b.sent.length
 sent:∀ n,n < a.sent.length→b.sent.getD n default=a.sent.getD n default
 live:∀ n,n < a.sent.length→b.live.getD n false=true→a.live.getD n false=true
 back:∀ n,n < a.sent.length→a.back.getD n false=true→b.back.getD n false=true
 got:∀ n,a.got.getD n 0 ≠ 0→b.got.getD n 0=a.got.getD n 0
 shut:4≤a.way→b.ver=a.ver→b.sent.length=a.sent.length
theorem Mono.trans {a b c:State} (h:Mono a b) (g:Mono b c):Mono a c where
 ver:=Int.le_trans h.ver g.ver
 way:=fun e=>by
   have h1:=h.ver;have h2:=g.ver
   have:=h.way (by omega);have:=g.way (by omega);omega
 opn:=fun e=>g.opn (h.opn e)
 tri:=fun e=>g.tri (h.tri e)
 len:=Nat.le_trans h.len g.len
 sent:=fun n hn=>by rw [g.sent n (Nat.lt_of_lt_of_le hn h.len),h.sent n hn]
 live:=fun n hn e=>h.live n hn (g.live n (Nat.lt_of_lt_of_le hn h.len) e)
 back:=fun n hn e=>g.back n (Nat.lt_of_lt_of_le hn h.len) (h.back n hn e)
 got:=fun n e=>by rw [g.got n (by rw [h.got n e];exact e),h.got n e]
 shut:=fun e e2=>by
   have h1:=h.ver;have h2:=g.ver
   have h3:=h.way (by omega)
   rw [g.shut (by omega) (by omega),h.shut e (by omega)]
theorem getD_len {α:Type} {l:List α} {n:Nat} {d:α} (h:l.length≤n):l.getD n d=d:=by
 simp [List.getD,List.getElem?_eq_none h]
inductive Turn (c o:Chain) (s':State):Prop where
 | same (h:s'=c.state)
 | send (p:Packet) (hw:c.state.way=3) (hp:p.ver=c.state.ver) (h:s'={ c.state with sent:=c.state.sent++[p],live:=c.state.live++[true],back:=c.state.back++[false] })
 | step (q:State) (n:Int) (hq:q=State.new ∨ q ∈ o.past) (hk:q=State.new→n=1 ∨ n=5) (hm:wayMay c.state q n=true) (h:s'=wayDo c.state q n)
 | get (q:State) (i:Nat) (p:Packet) (v:Int) (hq:q ∈ o.past) (hv:v=1 ∨ v=2) (hi:i < q.sent.length) (hp:q.sent.getD i default=p) (hl:q.live.getD i false=true) (h0:c.state.got.getD i 0=0)
     (hver:p.ver=c.state.ver) (ht:(c.past.length:Int)+1 < p.till) (hw:3≤c.state.way) (h:s'={ c.state with got:=c.state.got.set i v })
 | told (q:State) (i:Nat) (b:Bool) (hq:q ∈ o.past) (hi:i < c.state.sent.length) (hl:c.state.live.getD i false=true) (hg:q.got.getD i 0 ≠ 0) (hb:b=decide (q.got.getD i 0=2))
     (h:s'={ c.state with live:=c.state.live.set i false,back:=if b then c.state.back.set i true else c.state.back })
 | late (k i:Nat) (hk:k < o.past.length) (hi:i < c.state.sent.length) (hl:c.state.live.getD i false=true) (hg:(o.past.getD k default).got.getD i 0=0) (ht:(c.state.sent.getD i default).till≤(k:Int)+1)
     (h:s'={ c.state with live:=c.state.live.set i false,back:=c.state.back.set i true })
theorem getD_mem {α:Type} {l:List α} {n:Nat} {d:α} (h:n < l.length):l.getD n d ∈ l:=by
 simp only [List.getD,List.getElem?_eq_getElem h,Option.getD_some];exact List.getElem_mem h
structure CInv (c:Chain):Prop where
 pw:c.past.Pairwise Mono
 last:∀ s ∈ c.past,Mono s c.state
 sv:c.state.sent.Pairwise (fun p q=>p.ver≤q.ver)
 low:c.state.way < 3→c.state.sent=[]∧c.state.ver=1
 lv:∀ n,n < c.state.sent.length→c.state.live.getD n false=true→(c.state.sent.getD n default).ver=c.state.ver
structure LInv (c o:Chain):Prop where
 opn:3≤c.state.way→2≤o.state.way
 ver:c.state.ver≤o.state.ver+1
 ahead:o.state.ver=c.state.ver+1→c.state.way=4∧∀ n,c.state.live.getD n false=false
 gs:∀ n,o.state.got.getD n 0 ≠ 0→n < c.state.sent.length∧2≤(c.state.sent.getD n default).till
 done:∀ n,n < c.state.sent.length→c.state.live.getD n false=false→c.state.back.getD n false=false→o.state.got.getD n 0=1
 bk:∀ n,n < c.state.sent.length→c.state.back.getD n false=true→o.state.got.getD n 0=2 ∨ (o.state.got.getD n 0=0∧(c.state.sent.getD n default).till≤(o.past.length:Int))
 time:∀ n,n < c.state.sent.length→∀ i,i < o.past.length→(c.state.sent.getD n default).till≤(i:Int)+2→(o.past.getD i default).got.getD n 0=o.state.got.getD n 0
structure WInv (w:Two):Prop where
 ok:wOk w.list=true
 ca:CInv w.a
 cb:CInv w.b
 ab:LInv w.a w.b
 ba:LInv w.b w.a
end Go.Hw
