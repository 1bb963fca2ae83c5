/- Several texts in one: Aa, Mem, Sq, Ints, Mark, Bools, Law, Open, Recs, Flat, Pairs, Marks, App, Made, Copies, OwnP, TreeP, TxtP, Pure, TxtI, DRow, ProgP, NumP, TextP, CheckP. -/
import Derived.Below
import Derived.Calls
import Derived.Test.YticdknjoapdmeaaGreatDoorChecked
import Derived.WalkKit
import Derived.WalkSpells
import Derived.WalkLawsBesides
import Derived.Lib.Hide
import Derived.OrdersHeld
import Derived.RegionTactic
import Derived.Test.YticdknjoapdmeaaGreatDoorRows
import Derived.BigQuiet
import Derived.Deep.QuietTactic
import Derived.ProofKit
import Derived.OpenShut
import Derived.ShutString
import Derived.Deep.Slices
import Derived.Deep.Fields
import Derived.Deep.RegionHeld3
import Derived.Maps.AppendAt
import Derived.Laws.AppendOwnNone
import Derived.Lib.ItoaLen
import Derived.Lib.AtoiTie
import Derived.Lib.AtoiBound
import Derived.Lib.Join
set_option linter.unusedVariables false
set_option linter.unusedSimpArgs false
set_option linter.unnecessarySimpa false
namespace Go.Proofs.YticdknjoapdmeaaGreatDoor
set_option maxHeartbeats 4000000
section
open Go.RowKit
abbrev Bw (w w':World):Prop:=Below w.heap.size w w'
abbrev CL (f:FuncId) (args:Array Value) (w:World) (R:Ending->World->Prop):Prop:=Calls Tryz.prog f args w R
abbrev OA:=Option Addr
abbrev CR (f:FuncId) (args:Array Value) (w:World) (v:Value):Prop:=CL f args w fun e w'=>e=.returned v/\Bw w w'
theorem Zd2 {k:IntKind} {a b:Int} (h:a=b):Ending.returned (.int k a)=.returned (.int k b):=by rw [h]
theorem Zaf {a b:Bool} (h:a=b):Ending.returned (.bool a)=.returned (.bool b):=by rw [h]
theorem Zcp {B:Nat} {a w:World} (h:Below B a w) (n:Nat):Below B a (w.drewN n):=⟨h.os,h.tape,h.output,h.size,h.block⟩
theorem Below.step {B:Nat} {a b c:World} (hb:Bw b c) (h:Below B a b) (hs:B<=b.heap.size):Below B a c:=h.trans (hb.mono hs)
theorem lt_up2 {n m:Nat} (h:n<m):n<m+1+1:=by omega
theorem lt_up3 {n m:Nat} (h:n<m):n<m+1+1+1:=by omega
theorem lt_up4 {n m:Nat} (h:n<m):n<m+1+1+1+1:=by omega
theorem lt_add2 (n:Nat):n<n+1+1:=by omega
theorem lt_add3 (n:Nat):n<n+1+1+1:=by omega
theorem lt_add4 (n:Nat):n<n+1+1+1+1:=by omega
attribute [go_sem] lt_up2 lt_up3 lt_up4 lt_add2 lt_add3 lt_add4
theorem Zan {W w':World} {Q:Prop} (hb:Bw W w') (b:Nat) (h:b<W.heap.size) (k:(∀ o,w'.cell? ⟨b,o,none⟩=W.cell? ⟨b,o,none⟩)->(∀ o,w'.frozen? ⟨b,o,none⟩=W.frozen? ⟨b,o,none⟩)->b<w'.heap.size->Q):Q :=
 k (λo=>hb.cell (p:=⟨b,o,none⟩) h) (λo=>hb.frozen (p:=⟨b,o,none⟩) h) (Nat.lt_of_lt_of_le h hb.size)
theorem bcell {B:Nat} {W w1:World} (hb:Below B W w1):(∀ b o,b<B->w1.cell? ⟨b,o,none⟩=W.cell? ⟨b,o,none⟩)/\(∀ b o,b<B->w1.frozen? ⟨b,o,none⟩=W.frozen? ⟨b,o,none⟩) :=
 ⟨λb o h=>hb.cell (p:=⟨b,o,none⟩) h,λb o h=>hb.frozen (p:=⟨b,o,none⟩) h⟩
def Rd (w:World) (lo hi size:Nat) (v:Value) (n:Nat) (xs:List Value):Prop :=
 xs.length=n*size/\∃ (A:OA) (c:Nat),v=.slice A n c/\n<=c/\c<=maxLen/\(0<n->∃ b o,A=some ⟨b,o,none⟩/\lo<=b/\b<hi/\∀ j,j<n*size->w.cell? ⟨b,o+j,none⟩=xs[j]?)
theorem Rd.below {w w':World} {lo hi size n:Nat} {v:Value} {xs:List Value} {B:Nat} (h:Rd w lo hi size v n xs) (hb:Below B w w') (hB:hi<=B):Rd w' lo hi size v n xs:=by
 obtain ⟨hl,A,c,hv,hn,hc,h⟩:=h
 refine ⟨hl,A,c,hv,hn,hc,λhp=>?_⟩
 obtain ⟨b,o,hA,h1,h2,h3⟩:=h hp
 exact ⟨b,o,hA,h1,h2,λj hj=>(hb.cell (p:=⟨b,o+j,none⟩) (by show b<B;omega)).trans (h3 j hj)⟩
theorem Rd.drew {w:World} {lo hi size n:Nat} {v:Value} {xs:List Value} (h:Rd w lo hi size v n xs):Rd w.drew lo hi size v n xs:=h
theorem Rd.drewN {w:World} {lo hi size n:Nat} {v:Value} {xs:List Value} (h:Rd w lo hi size v n xs) (k:Nat):Rd (w.drewN k) lo hi size v n xs:=h
theorem Rd.mono {w:World} {lo hi lo' hi' size n:Nat} {v:Value} {xs:List Value} (h:Rd w lo hi size v n xs) (h1:lo'<=lo) (h2:hi<=hi'):Rd w lo' hi' size v n xs:=by
 obtain ⟨hl,A,c,hv,hn,hc,h⟩:=h
 refine ⟨hl,A,c,hv,hn,hc,λhp=>?_⟩
 obtain ⟨b,o,hA,h3,h4,h5⟩:=h hp
 exact ⟨b,o,hA,by omega,by omega,h5⟩
theorem Rd.len {w:World} {lo hi size n:Nat} {v:Value} {xs:List Value} (h:Rd w lo hi size v n xs):n<=maxLen:=by
 obtain ⟨hl,A,c,hv,hn,hc,h⟩:=h
 omega
def Own (w:World) (g:Nat) (t:TypeId) (cs:List Value):Prop:=w.heap[g]? = some (.cells ⟨cs⟩ t (0,0))
theorem Own.lt {w:World} {g:Nat} {t:TypeId} {cs:List Value} (h:Own w g t cs):g<w.heap.size:=by
 rcases Nat.lt_or_ge g w.heap.size with hlt|hge
 ·exact hlt
 ·unfold Own at h;rw [Array.getElem?_eq_none hge] at h;cases h
theorem Own.cell {w:World} {g:Nat} {t:TypeId} {cs:List Value} (h:Own w g t cs) (i:Nat):w.cell? ⟨g,i,none⟩=cs[i]? := by
 unfold Own at h;simp [World.cell?,h]
theorem Own.frozen {w:World} {g:Nat} {t:TypeId} {cs:List Value} (h:Own w g t cs) (i:Nat):w.frozen? ⟨g,i,none⟩=false:=by
 unfold Own at h;simp [World.frozen?,h]
theorem Own.new (w:World) (t:TypeId) (cs:Array Value):Own (w.alloc (.cells cs t)) w.heap.size t cs.toList:=heap_alloc_new w _
theorem Own.at_new {w:World} {g:Nat} {t:TypeId} {cs:Array Value} (hg:g=w.heap.size):Own (w.alloc (.cells cs t)) g t cs.toList:=by subst hg;exact Own.new w t cs
theorem Own.drewN {w:World} {g:Nat} {t:TypeId} {cs:List Value} (h:Own w g t cs) (n:Nat):Own (w.drewN n) g t cs:=h
theorem Own.drew {w:World} {g:Nat} {t:TypeId} {cs:List Value} (h:Own w g t cs):Own w.drew g t cs:=h
theorem Own.alloc {w:World} {g:Nat} {t:TypeId} {cs:List Value} (h:Own w g t cs) (o:Obj):Own (w.alloc o) g t cs:=(Below.heap_alloc w o g h.lt).trans h
theorem Own.set_ {w:World} {g:Nat} {t:TypeId} {cs:List Value} (h:Own w g t cs) (i:Nat) (u:Value):Own (w.setCell ⟨g,i,none⟩ u) g t (cs.set i u):=by
 unfold Own at h ⊢
 simp [World.setCell,Array.getElem?_modify,h]
theorem Own.far {w:World} {g:Nat} {t:TypeId} {cs:List Value} (h:Own w g t cs) {p:Addr} (hp:g≠p.block) (u:Value):Own (w.setCell p u) g t cs:=(Below.heap_setCell w p u g hp).trans h
theorem Own.below {w w':World} {g:Nat} {t:TypeId} {cs:List Value} {B:Nat} (h:Own w g t cs) (hb:Below B w w') (hg:g<B):Own w' g t cs:=(hb.block g hg).trans h
theorem Own.rd {w:World} {g:Nat} {t:TypeId} {cs xs:List Value} {lo hi n size:Nat} (h:Own w g t cs) (hl:xs.length=n*size) (hx:∀ j,j<n*size->cs[j]? = xs[j]?) (h1:lo<=g) (h2:g<hi) (hm:n<=maxLen) :
  Rd w lo hi size (.slice (some ⟨g,0,none⟩) n n) n xs :=
 ⟨hl,_,n,rfl,Nat.le_refl _,hm,λ_=>⟨g,0,rfl,h1,h2,λj hj=>by rw [Nat.zero_add,h.cell,hx j hj]⟩⟩
theorem Zss {P:Program} (t e:TypeId) (z:Value) (size bytes:Nat) (ht:P.underlying t=some (.slice e)) (hinfo:(P.info? e).map (λi=>(i.zero,i.size,i.bytes))=some (some z,size,bytes))
  (n:Nat) (hb:bytes*n<=281474976710656) (hn:n<=9223372036854775807) (w:World) :
  (Instr.makeSlice t (.int .i64 (n:Int)) (.int .i64 (n:Int))).run P w=.ok (.slice (some ⟨w.heap.size,0,none⟩) n n) (w.alloc (.cells (madeCells z.cells (n*size)) e)):=by
 obtain ⟨i,hi,hz,hs,hby⟩:=info_parts hinfo
 have h:=run_make (P:=P) w t e i z ht hi hz .i64 .i64 n n (by omega) (by omega) (by rw [hby];omega) (by omega)
 simpa [hs] using h
def RS (w:World) (size:Nat) (A:OA) (n c:Nat) (xs:List Value):Prop:=Rd w 0 w.heap.size size (.slice A n c) n xs
theorem RS.mk_ {w:World} {size n c:Nat} {A:OA} {xs:List Value} (h:Rd w 0 w.heap.size size (.slice A n c) n xs):RS w size A n c xs:=h
theorem RS.step {size n c:Nat} {A:OA} {xs:List Value} {w w':World} (hb:Bw w w') (h:RS w size A n c xs):RS w' size A n c xs:=(Rd.below h hb (Nat.le_refl _)).mono (Nat.le_refl _) hb.size
theorem RS.alloc {size n c:Nat} {A:OA} {xs:List Value} {w:World} (h:RS w size A n c xs) (o:Obj):RS (w.alloc o) size A n c xs:=h.step ((Below.refl _ _).alloc (Nat.le_refl _) o)
theorem RS.drew {size n c:Nat} {A:OA} {xs:List Value} {w:World} (h:RS w size A n c xs):RS w.drew size A n c xs:=h
theorem RS.drewN {size n c:Nat} {A:OA} {xs:List Value} {w:World} (h:RS w size A n c xs) (k:Nat):RS (w.drewN k) size A n c xs:=h
theorem RS.setCell {size n c:Nat} {A:OA} {xs:List Value} {w:World} (h:RS w size A n c xs) {p:Addr} (hp:∀ ad,A=some ad->ad.block≠p.block) (u:Value):RS (w.setCell p u) size A n c xs:=by
 obtain ⟨hl,A',c',hs,h1,h2,hr⟩:=h
 refine ⟨hl,A',c',hs,h1,h2,λhn=>?_⟩
 injection hs with e1 _ e2
 subst e1
 obtain ⟨b,o,h3,h4,h5,h6⟩:=hr hn
 refine ⟨b,o,h3,h4,by simpa [World.setCell] using h5,λj hj=>?_⟩
 rw [<- h6 j hj]
 exact World.cell?_setCell_other w p _ u (λe=>hp _ h3 (by rw [e]))
theorem RS.len {size n c:Nat} {A:OA} {xs:List Value} {w:World} (h:RS w size A n c xs):n<=maxLen:=Rd.len h
theorem RS.xlen {size n c:Nat} {A:OA} {xs:List Value} {w:World} (h:RS w size A n c xs):xs.length=n*size:=h.1
theorem RS.open_ {size n c:Nat} {A:OA} {xs:List Value} {w:World} (h:RS w size A n c xs):n<=c/\c<=maxLen/\(0<n->∃ b o,A=some ⟨b,o,none⟩/\b<w.heap.size/\∀ j,j<n*size->w.cell? ⟨b,o+j,none⟩=xs[j]?):=by
 obtain ⟨_,A',c',hs,h1,h2,hr⟩:=h
 injection hs with e1 _ e2
 subst e1;subst e2
 refine ⟨h1,h2,λhp=>?_⟩
 obtain ⟨b,o,h3,_,h5,h6⟩:=hr hp
 exact ⟨b,o,h3,h5,h6⟩
abbrev sl (g n:Nat):Value:=.slice (some ⟨g,0,none⟩) n n
theorem Own.rs {w:World} {g:Nat} {t:TypeId} {xs:List Value} {n size:Nat} (h:Own w g t xs) (hl:xs.length=n*size) (hm:n<=1048576) :
  RS w size (some ⟨g,0,none⟩) n n xs:=h.rd hl (λ_ _=>rfl) (Nat.zero_le _) h.lt (by unfold maxLen;omega)
theorem Own.step {w w':World} {g:Nat} {t:TypeId} {cs:List Value} (hb:Bw w w') (h:Own w g t cs):Own w' g t cs:=h.below hb h.lt
abbrev ints (l:List Int):List Value:=l.map (Value.int .i64)
abbrev Zqa (l:List Bool):List Value:=l.map Value.bool
theorem omm {p:Prop} (h:p:=by first|omega|(simp<;>omega)):p:=h
theorem qh (p:Prop) (h:p):Hid p:=h
theorem qn {p:Prop} (h:p:=by simp [RowKit.intOf]<;>omega):p:=h
theorem qe {α:Type} (x:α):∃ y,y=x:=⟨x,rfl⟩
theorem qv {α:Type} (x:α):∃ y,x=y:=⟨x,rfl⟩
theorem qo {p:Prop} (h:p:=by omega):p:=h
theorem qs {p:Prop} (h:p:=by simp):p:=h
theorem qr {p:Prop} (h:p:=by rfl):p:=h
theorem qd {p:Prop} (h:p:=by decide):p:=h
theorem qg {p:Prop} (h:p:=by go_num):p:=h
theorem kr {p:Prop} (h:p:=by kernel_rfl):p:=h
theorem hdQ {p:Prop} (h:p):Hid p:=h
theorem bll {B:Nat} {w w':World} (h:Below B w w':=by repeat (first|(with_reducible exact Below.refl _ _)|(with_reducible assumption)|(with_reducible exact Hid.out ‹_›)|((with_reducible refine Below.alloc ?_ ?_ _);rotate_left;(first|omega|(simp<;>omega)))|((with_reducible refine Below.setCell ?_ ?_ _);rotate_left;(first|omega|(simp<;>omega)))|(with_reducible refine Zcp ?_ _)|(with_reducible refine Below.drew ?_)|((with_reducible refine Below.step (by assumption) ?_ ?_);rotate_left;(first|omega|(simp<;>omega))))):Below B w w':=h
theorem bst {B:Nat} {a b c:World} (hb:Bw b c) (h:Below B a b:=by repeat (first|(with_reducible exact Below.refl _ _)|(with_reducible assumption)|(with_reducible exact Hid.out ‹_›)|((with_reducible refine Below.alloc ?_ ?_ _);rotate_left;(first|omega|(simp<;>omega)))|((with_reducible refine Below.setCell ?_ ?_ _);rotate_left;(first|omega|(simp<;>omega)))|(with_reducible refine Zcp ?_ _)|(with_reducible refine Below.drew ?_)|((with_reducible refine Below.step (by assumption) ?_ ?_);rotate_left;(first|omega|(simp<;>omega))))) (hs:B<=b.heap.size:=by first|omega|(simp<;>omega)):Below B a c:=h.trans (hb.mono hs)
theorem bh (a:World) {b c:World} (hb:Bw b c) (h:Bw a b:=by repeat (first|(with_reducible exact Below.refl _ _)|(with_reducible assumption)|(with_reducible exact Hid.out ‹_›)|((with_reducible refine Below.alloc ?_ ?_ _);rotate_left;(first|omega|(simp<;>omega)))|((with_reducible refine Below.setCell ?_ ?_ _);rotate_left;(first|omega|(simp<;>omega)))|(with_reducible refine Zcp ?_ _)|(with_reducible refine Below.drew ?_)|((with_reducible refine Below.step (by assumption) ?_ ?_);rotate_left;(first|omega|(simp<;>omega))))) (hs:a.heap.size<=b.heap.size:=by first|omega|(simp<;>omega)):Hid (Bw a c):=h.trans (hb.mono hs)
abbrev CB_ (P:Program) (f:FuncId) (args:Array Value) (w:World) (v:Value):Prop:=Calls P f args w λe w'=>e=.returned v/\Bw w w'
theorem owx {w w':World} {g:Nat} {t:TypeId} {cs:List Value} (x:Own w g t cs) (h:Own w g t cs->Own w' g t cs:=by intro bx;repeat (first|(with_reducible exact bx)|((with_reducible refine Own.far ?_ ?_ _);rotate_left;(first|omega|(simp<;>omega)))|(with_reducible refine Own.alloc ?_ _)|(with_reducible refine Own.drewN ?_ _)|(with_reducible refine Own.drew ?_)|(with_reducible refine Own.step (by assumption) ?_))):Own w' g t cs:=h x
theorem bxx {B:Nat} {w w':World} (hb:Below B w w') (b:Nat) (h:b<B:=by first|omega|(simp<;>omega)) (h':b<w.heap.size:=by first|omega|(simp<;>omega)):(∀ o,w'.cell? ⟨b,o,none⟩=w.cell? ⟨b,o,none⟩)/\(∀ o,w'.frozen? ⟨b,o,none⟩=w.frozen? ⟨b,o,none⟩)/\b<w'.heap.size :=
 ⟨λo=>hb.cell (p:=⟨b,o,none⟩) h,λo=>hb.frozen (p:=⟨b,o,none⟩) h,Nat.lt_of_lt_of_le h' hb.size⟩
theorem LO {α:Type}:type_of% (And.intro (@List.getElem_toArray α) (And.intro (@List.getElem_cons_succ α) (And.intro (@List.getElem_cons_zero α) (And.intro (@List.setIfInBounds_toArray α) (And.intro (@List.set_cons_zero α) (@List.set_cons_succ α)))))) :=
 And.intro (@List.getElem_toArray α) (And.intro (@List.getElem_cons_succ α) (And.intro (@List.getElem_cons_zero α) (And.intro (@List.setIfInBounds_toArray α) (And.intro (@List.set_cons_zero α) (@List.set_cons_succ α)))))
theorem tkH {P:Program} {md:Region.Mode} {ops:Array Oper} {Q:Exit->Act->World->Prop} {S:World->Prop} (i:Nat) {oi:Oper} {v:Value} {fuel:Nat} {listed:Array Bool} {a:Act} {w:World}
  (h:wpAnyH P md ops Q S fuel (listed.setIfInBounds i true) (a.put oi.dst v) w) (hi:ops[i]? = some oi:=by rfl) (hv:∀ w,S w->(execOp a.eval oi).run P w=.ok (.value v) w:=by intro w hSw;(try dsimp only at hSw);go_simp;try with_reducible rfl) (hs:Region.noSelect ops=true:=by kernel_rfl) (hf:Region.free md ops listed i=true:=by kernel_rfl) (hr:(Region.ready md ops listed).contains i=true:=by kernel_rfl)
  (hQ:∀ c a w,Q (.panic c) (a.put oi.dst v) w->Q (.panic c) a w:=by exact λ_ _ _ h=>h) (hw:Region.wanted oi (yielded ops a.tmps)=true:=by rfl) (hS:S w:=by assumption):wpAnyH P md ops Q S (fuel+1) listed a w :=
 wpAnyH_take hi hs hf hr hQ (Or.inl ⟨hw,hv⟩) hS h
def Zjh (l m:List Int) (k:Nat):Prop:=l.take k=m.take k
theorem Zjh.succ {l m:List Int} {k:Nat} (h:Zjh l m k) (hl:k<l.length) (hm:k<m.length) (e:l[k]=m[k]):Zjh l m (k+1):=by
 unfold Zjh at *
 rw [List.take_succ_eq_append_getElem hl,List.take_succ_eq_append_getElem hm,h,e]
theorem Zjh.whole {l m:List Int} (h:Zjh l m l.length) (hlen:l.length=m.length):l=m:=by
 unfold Zjh at h
 rwa [List.take_of_length_le (Nat.le_refl _),hlen,List.take_of_length_le (Nat.le_refl _)] at h
theorem Zd3 {l:List Int} {k:Nat} (h:k<l.length):(ints l)[k]? = some (.int .i64 l[k]):=by simp [h]
theorem T.infoInt:(Tryz.prog.info? 3).map (λi=>(i.zero,i.size,i.bytes))=some (some (.int .i64 0),1,8):=kr
def Zym (l:List Int) (cs:List Value) (k:Nat):Prop:=cs.length=l.length/\∀ j,j<k->cs[j]? = (ints l)[j]?
theorem Zym.succ {l:List Int} {cs:List Value} {k:Nat} (h:Zym l cs k) (hk:k<l.length):Zym l (cs.set k (.int .i64 l[k])) (k+1):=by
 refine ⟨by rw [List.length_set];exact h.1,λj hj=>?_⟩
 by_cases e:k=j
 ·subst e;rw [List.getElem?_set_self (by rw [h.1];exact hk),Zd3 hk]
 ·rw [List.getElem?_set_ne e];exact h.2 j qo
structure Only (B:Nat) (G:List Nat) (w w':World):Prop where
 os:w'.os=w.os
 tape:w'.tape=w.tape
 output:w'.output=w.output
 size:w.heap.size<=w'.heap.size
 block:∀ k,k<B->k∉G->w'.heap[k]? = w.heap[k]?
theorem Only.refl (B:Nat) (G:List Nat) (w:World):Only B G w w:=⟨rfl,rfl,rfl,Nat.le_refl _,λ_ _ _=>rfl⟩
theorem Only.of_below {B:Nat} {w w':World} (h:Below B w w') (G:List Nat):Only B G w w':=⟨h.os,h.tape,h.output,h.size,λk hk _=>h.block k hk⟩
theorem Only.trans {B C:Nat} {G H:List Nat} {a b c:World} (h:Only B G a b) (k:Only C H b c) (hB:B<=C) (hG:∀ x,x∈H->x∈G):Only B G a c :=
 ⟨k.os.trans h.os,k.tape.trans h.tape,k.output.trans h.output,Nat.le_trans h.size k.size,λi hi hn=>(k.block i qo (λhx=>hn (hG _ hx))).trans (h.block i hi hn)⟩
theorem Only.setCell {B:Nat} {G:List Nat} {a w:World} (h:Only B G a w) {p:Addr} (hp:p.block∈G) (u:Value):Only B G a (w.setCell p u) :=
 ⟨h.os,h.tape,h.output,by simpa [World.setCell] using h.size,λi hi hn=>(Below.heap_setCell w p u i (λe=>hn (e ▸ hp))).trans (h.block i hi hn)⟩
theorem Only.drew {B:Nat} {G:List Nat} {a w:World} (h:Only B G a w):Only B G a w.drew:=⟨h.os,h.tape,h.output,h.size,h.block⟩
theorem Only.drewN {B:Nat} {G:List Nat} {a w:World} (h:Only B G a w) (n:Nat):Only B G a (w.drewN n):=⟨h.os,h.tape,h.output,h.size,h.block⟩
theorem Only.below {B C:Nat} {G:List Nat} {a w:World} (h:Only B G a w) (hC:C<=B) (hG:∀ x,x∈G->C<=x):Below C a w :=
 ⟨h.os,h.tape,h.output,h.size,λi hi=>h.block i qo (λhx=>by have:=hG i hx;omega)⟩
theorem Only.own {B:Nat} {G:List Nat} {a w:World} (h:Only B G a w) {g:Nat} {t:TypeId} {cs:List Value} (ho:Own a g t cs) (hB:g<B) (hG:g∉G):Own w g t cs:=(h.block g hB hG).trans ho
theorem Only.cell {B:Nat} {G:List Nat} {a w:World} (h:Only B G a w) (g:Nat) (hB:g<B) (hG:g∉G):(∀ o,w.cell? ⟨g,o,none⟩=a.cell? ⟨g,o,none⟩)/\(∀ o,w.frozen? ⟨g,o,none⟩=a.frozen? ⟨g,o,none⟩):=by
 have:=h.block g hB hG
 exact ⟨λo=>by simp [World.cell?,this],λo=>by simp [World.frozen?,this]⟩
def Zou (k:Int) (n:Nat):List Int:=(List.range n).map (λ(i:Nat)=>k+i)
theorem Zv5 {k:Int} {n i:Nat} (h:i<n):(ints (Zou k n))[i]? = some (.int .i64 (k+i)):=by simp [Zou,h]
def Zqh (k:Int) (n:Nat) (cs:List Value) (i:Nat):Prop:=cs.length=n/\∀ j,j<i->cs[j]? = (ints (Zou k n))[j]?
theorem Zqh.succ {k:Int} {n i:Nat} {cs:List Value} (h:Zqh k n cs i) (hi:i<n):Zqh k n (cs.set i (.int .i64 (k+i))) (i+1):=by
 refine ⟨by rw [List.length_set];exact h.1,λj hj=>?_⟩
 by_cases e:i=j
 ·subst e;rw [List.getElem?_set_self (by rw [h.1];exact hi),Zv5 hi]
 ·rw [List.getElem?_set_ne e];exact h.2 j qo
theorem Zqh.all {k:Int} {n:Nat} {cs:List Value} (h:Zqh k n cs n):cs=ints (Zou k n):=by
 apply List.ext_getElem?
 intro j
 by_cases hj:j<n
 ·exact h.2 j hj
 ·rw [List.getElem?_eq_none (by rw [h.1];omega),List.getElem?_eq_none (by simp [Zou];omega)]
def gOf:OA->List Nat
 | none=>[]
 | some a=>[a.block]
def Zdb (w:World) (sz:Nat) (A:OA) (n c:Nat) (t:TypeId) (cs:List Value):Prop :=
 cs.length=n*sz/\n<=c/\c<=maxLen/\((A=none/\n=0)∨∃ g ds,A=some ⟨g,0,none⟩/\Own w g t (cs++ds))
section
variable {w w' a:World} {A:OA} {sz n c:Nat} {t:TypeId} {cs:List Value}
theorem Zdb.lt (h:Zdb w sz A n c t cs):∀ x,x∈gOf A->x<w.heap.size:=by
 obtain ⟨_,_,_,⟨rfl,_⟩|⟨g,ds,rfl,ho⟩⟩:=h
 ·intro x hx;cases hx
 ·intro x hx;simp [gOf] at hx;subst hx;exact ho.lt
theorem Zdb.only {B:Nat} {G:List Nat} (h:Zdb a sz A n c t cs) (hO:Only B G a w) (hg:∀ x,x∈gOf A->x<B/\x∉G):Zdb w sz A n c t cs:=by
 obtain ⟨hl,h1,h2,⟨rfl,h0⟩|⟨g,ds,rfl,ho⟩⟩:=h
 ·exact ⟨hl,h1,h2,.inl ⟨rfl,h0⟩⟩
 ·have:=hg g (by simp [gOf])
  exact ⟨hl,h1,h2,.inr ⟨g,ds,rfl,hO.own ho this.1 this.2⟩⟩
theorem Zdb.step (hb:Bw w w') (h:Zdb w sz A n c t cs):Zdb w' sz A n c t cs:=h.only (Only.of_below hb []) (λx hx=>⟨h.lt x hx,qs⟩)
theorem Zdb.alloc (h:Zdb w sz A n c t cs) (o:Obj):Zdb (w.alloc o) sz A n c t cs:=h.step ((Below.refl _ _).alloc (Nat.le_refl _) o)
theorem Zdb.drewN (h:Zdb w sz A n c t cs) (k:Nat):Zdb (w.drewN k) sz A n c t cs:=h
theorem Zdb.drew (h:Zdb w sz A n c t cs):Zdb w.drew sz A n c t cs:=h
theorem Zdb.far (h:Zdb w sz A n c t cs) {p:Addr} (hp:∀ x,x∈gOf A->x≠p.block) (u:Value):Zdb (w.setCell p u) sz A n c t cs:=by
 obtain ⟨hl,h1,h2,⟨rfl,h0⟩|⟨g,ds,rfl,ho⟩⟩:=h
 ·exact ⟨hl,h1,h2,.inl ⟨rfl,h0⟩⟩
 ·exact ⟨hl,h1,h2,.inr ⟨g,ds,rfl,ho.far (hp g (by simp [gOf])) u⟩⟩
theorem Zdb.rs (h:Zdb w sz A n c t cs):RS w sz A n c cs:=by
 obtain ⟨hl,h1,h2,⟨rfl,h0⟩|⟨g,ds,rfl,ho⟩⟩:=h
 ·subst h0
  exact ⟨hl,none,c,rfl,h1,h2,λh=>absurd h qo⟩
 ·exact ⟨hl,some ⟨g,0,none⟩,c,rfl,h1,h2,λh=>⟨g,0,rfl,Nat.zero_le _,ho.lt,λj hj=>by rw [Nat.zero_add,ho.cell,List.getElem?_append_left qo]⟩⟩
theorem Zdb.none_ (w:World) (sz:Nat) (t:TypeId):Zdb w sz none 0 0 t []:=⟨qs,Nat.le_refl _,Nat.zero_le _,.inl ⟨rfl,rfl⟩⟩
theorem Zdb.some_ {g:Nat} (h:Own w g t cs) (hl:cs.length=n*sz) (hn:n<=1048576):Zdb w sz (some ⟨g,0,none⟩) n n t cs:=⟨hl,Nat.le_refl _,by unfold maxLen;omega,.inr ⟨g,[],rfl,by rwa [List.append_nil]⟩⟩
end
def Zhu (l m:List Bool) (k:Nat):Prop:=l.take k=m.take k
theorem Zhu.succ {l m:List Bool} {k:Nat} (h:Zhu l m k) (hl:k<l.length) (hm:k<m.length) (e:l[k]=m[k]):Zhu l m (k+1):=by
 unfold Zhu at *
 rw [List.take_succ_eq_append_getElem hl,List.take_succ_eq_append_getElem hm,h,e]
theorem Zhu.whole {l m:List Bool} (h:Zhu l m l.length) (hlen:l.length=m.length):l=m:=by
 unfold Zhu at h
 rwa [List.take_of_length_le (Nat.le_refl _),hlen,List.take_of_length_le (Nat.le_refl _)] at h
theorem bools_at {l:List Bool} {k:Nat} (h:k<l.length):(Zqa l)[k]? = some (.bool l[k]):=by simp [h]
def Zsf (l:List Bool) (cs:List Value) (k:Nat):Prop:=cs.length=l.length/\∀ j,j<k->cs[j]? = (Zqa l)[j]?
theorem Zsf.succ {l:List Bool} {cs:List Value} {k:Nat} (h:Zsf l cs k) (hk:k<l.length):Zsf l (cs.set k (.bool l[k])) (k+1):=by
 refine ⟨by rw [List.length_set];exact h.1,λj hj=>?_⟩
 by_cases e:k=j
 ·subst e;rw [List.getElem?_set_self (by rw [h.1];exact hk),bools_at hk]
 ·rw [List.getElem?_set_ne e];exact h.2 j qo
end
section
open Go.ChangeShapes Go.WideShapes Go.ChangeAt Go.RowKit
theorem P.own:ownKnob Tryz.prog.godebug=none:=kr
theorem P.laidOut:laidOutB Tryz.prog=true:=kr
theorem Zh3 {H:Type} {enc:TypeId×Value->H} {W W':World}:∀ (ts:List TypeId) (vs:List Value) (ds:List (DataW H)) (ps:List MemPlace),
  (∀ t∈ts,Tryz.prog.readableRec t=true/\t<Tryz.prog.types.size)->DataW.TrodAll enc Tryz.prog W 0 (λ_=>true) true ts vs ds ps->Bw W W'->(∀ x∈ps,x.block<W.heap.size) ->
  DataW.TrodAll enc Tryz.prog W' 0 (λb=>decide (b<W.heap.size)) true ts vs ds ps
 | [],vs,ds,ps,_,h,_,_=>by
  obtain ⟨rfl,rfl,rfl⟩:=trodAll_nil h
  exact trodAll_mk0
 | t::ts,vs,ds,ps,hr,h,hb,hlt=>by
  obtain ⟨v,vs',d,ds',p,q,rfl,rfl,rfl,h0,r0⟩:=trodAll_cons h
  exact trodAll_cons_mk (Below.trod P.laidOut (hr t qs).1 (hr t qs).2 h0 hb (λx hx=>hlt x (by simp [hx]))) (Zh3 ts vs' ds' q (λt' ht'=>hr t' (by simp [ht'])) r0 hb (λx hx=>hlt x (by simp [hx])))
theorem Zj5 {H:Type} {enc:TypeId×Value->H} {W:World} {b:Nat} {sp:Nat->Bool} {hd:Bool}:∀ (ts:List TypeId) (vs:List Value) (ds:List (DataW H)) (ps:List MemPlace),DataW.TrodAll enc Tryz.prog W b sp hd ts vs ds ps->ds.length=ts.length
 | [],vs,ds,ps,h=>by
  obtain ⟨rfl,rfl,rfl⟩:=trodAll_nil h
  rfl
 | t::ts,vs,ds,ps,h=>by
  obtain ⟨v,vs',d,ds',p,q,rfl,rfl,rfl,h0,r0⟩:=trodAll_cons h
  simp [Zj5 ts vs' ds' q r0]
end
section
set_option maxRecDepth 100000
open Go.ChangeShapes Go.WideShapes Go.ChangeAt Go.RowKit Go.Deep
open Go.ChangeMaps (open_string shut_string)
theorem T.cellInt:Tryz.prog.cellsOf 3=1:=kr
section
variable {H:Type} {enc:TypeId×Value->H} {W:World}
def Can (enc:TypeId×Value->H) (W:World) (t:TypeId) (cs:List Value):Prop:=∃ fuel x,DataW.trod enc Tryz.prog W 0 (λ_=>true) true fuel t cs=some x
def Arg (enc:TypeId×Value->H) (W:World) (t:TypeId) (v:Value):Prop:=Can enc W t v.cells.toList/\∃ base,Value.okWide Tryz.prog W .any base t v
theorem Can.int {t:TypeId} {k:IntKind} {cs:List Value} (h:Can enc W t cs) (ht:Tryz.prog.underlying t=some (.int k)):∃ n,cs=[.int k n]/\(Lit.int k n).wf=true:=by
 obtain ⟨fuel,x,h⟩:=h
 obtain ⟨n,h1,_,h2⟩:=DataW.trod_int ht h
 exact ⟨n,h1,h2⟩
theorem Can.bool {t:TypeId} {cs:List Value} (h:Can enc W t cs) (ht:Tryz.prog.underlying t=some .bool):∃ b,cs=[.bool b]:=by
 obtain ⟨fuel,x,h⟩:=h
 obtain ⟨b,h1,_⟩:=DataW.trod_bool ht h
 exact ⟨b,h1⟩
theorem Can.string {t:TypeId} {cs:List Value} (h:Can enc W t cs) (ht:Tryz.prog.underlying t=some .string):∃ s:ByteArray,cs=[.string s]/\s.size<=maxLen:=by
 obtain ⟨fuel,x,h⟩:=h
 obtain ⟨s,h1,_,h2⟩:=DataW.trod_string ht h
 exact ⟨s,h1,h2⟩
theorem Can.field {t:TypeId} {fs:Array Field} {cs:List Value} (h:Can enc W t cs) (ht:Tryz.prog.underlying t=some (.struct fs)) (i:Nat) (f:Field) (hf:fs[i]? = some f) :
  Can enc W f.type ((cs.drop f.offset).take (Tryz.prog.cellsOf f.type)):=by
 obtain ⟨fuel,x,h⟩:=h
 obtain ⟨xs,n,_,hx,hl,hlen,hg⟩:=DataW.trod_struct ht h
 have h1:=hg i f hf
 have hi:i<xs.length:=by rw [hlen];exact (Array.getElem?_eq_some_iff.1 hf).1
 rw [List.getElem?_eq_getElem hi] at h1
 exact ⟨n,_,h1⟩
theorem Can.slice {t e:TypeId} {cs:List Value} (h:Can enc W t cs) (ht:Tryz.prog.underlying t=some (.slice e)) (size:Nat) (hsz:Tryz.prog.cellsOf e=size) (hpos:0<size) :
  ∃ (v:Value) (n:Nat) (xs:List Value),cs=[v]/\Rd W 0 W.heap.size size v n xs/\∀ i,i<n->Can enc W e ((xs.drop (i*size)).take size):=by
 obtain ⟨fuel,x,h⟩:=h
 subst hsz
 rcases open_slice ht h with ⟨rfl,_⟩|⟨a,len,cap,m,n,D,Pl,rfl,hb,hl,hm,hmm,hx,hi⟩
 ·exact ⟨_,0,[],rfl,⟨qs,none,0,rfl,qs,qs,λh=>absurd h qo⟩,λi h=>absurd h qo⟩
 ·have hml:len<=m:=by simp at hmm;omega
  have hcell:∀ i,i<len->∀ j,j<Tryz.prog.cellsOf e->∃ u,W.cell? (a.add (i*Tryz.prog.cellsOf e+j))=some u:=by
   intro i hi' j hj
   obtain ⟨cs',hc,_⟩:=hi i qo
   obtain ⟨_,hcl,hat⟩:=World.cells?_some hc
   have:=hat j hj
   rw [Go.Deep.add_add,List.getElem?_eq_getElem qo] at this
   exact ⟨_,this⟩
  rcases Nat.eq_zero_or_pos len with h0|h0
  ·subst h0
   exact ⟨_,0,[],rfl,⟨qs,some a,cap,rfl,qo,hm,λh=>absurd h qo⟩,λi h=>absurd h qo⟩
  obtain ⟨b,off,spot⟩:=a
  have hspot:spot=none:=by
   obtain ⟨u,hu⟩:=hcell 0 h0 0 hpos
   simpa [Addr.add] using World.cell?_spot hu
  subst hspot
  have hadd:∀ k,(Addr.mk b off none).add k=⟨b,off+k,none⟩:=by
   intro k;unfold Addr.add;split
   ·rename_i h;subst h;rfl
   ·rfl
  have hall:∀ j,j<len*Tryz.prog.cellsOf e->∃ u,W.cell? ⟨b,off+j,none⟩=some u:=by
   intro j hj
   have h1:j / Tryz.prog.cellsOf e<len:=by rw [Nat.div_lt_iff_lt_mul hpos];exact hj
   obtain ⟨u,hu⟩:=hcell (j / Tryz.prog.cellsOf e) h1 (j % Tryz.prog.cellsOf e) (Nat.mod_lt _ hpos)
   rw [Nat.div_add_mod',hadd] at hu
   exact ⟨u,hu⟩
  let xs:=(List.range (len*Tryz.prog.cellsOf e)).map λj=>(W.cell? ⟨b,off+j,none⟩).getD undef
  have hxl:xs.length=len*Tryz.prog.cellsOf e:=by simp [xs]
  have hxs:∀ j,j<len*Tryz.prog.cellsOf e->W.cell? ⟨b,off+j,none⟩=xs[j]? := by
   intro j hj
   obtain ⟨u,hu⟩:=hall j hj
   simp [xs,hj,hu]
  have hbl:b<W.heap.size:=by
   obtain ⟨u,hu⟩:=hall 0 (Nat.mul_pos h0 hpos)
   exact block_lt_of_cell hu
  refine ⟨_,len,xs,rfl,⟨hxl,_,cap,rfl,hl,hm,λ_=>⟨b,off,rfl,Nat.zero_le _,hbl,hxs⟩⟩,λi hi'=>?_⟩
  obtain ⟨cs',hc,ht'⟩:=hi i qo
  obtain ⟨_,hcl,hat⟩:=World.cells?_some hc
  have hle:(i+1)*Tryz.prog.cellsOf e<=len*Tryz.prog.cellsOf e:=Nat.mul_le_mul_right _ hi'
  rw [Nat.succ_mul] at hle
  have:(xs.drop (i*Tryz.prog.cellsOf e)).take (Tryz.prog.cellsOf e)=cs':=by
   apply List.ext_getElem?
   intro j
   by_cases hj:j<Tryz.prog.cellsOf e
   ·have h1:=hat j hj
    rw [Go.Deep.add_add,hadd,hxs _ qo] at h1
    rw [List.getElem?_take_of_lt hj,List.getElem?_drop]
    exact h1
   ·rw [List.getElem?_eq_none (by simp;omega),List.getElem?_eq_none qo]
  rw [this]
  exact ⟨n,_,ht'⟩
theorem Can.intRow {t e:TypeId} {cs:List Value} (h:Can enc W t cs) (ht:Tryz.prog.underlying t=some (.slice e)) (he:Tryz.prog.underlying e=some (.int .i64)) (hsz:Tryz.prog.cellsOf e=1) :
  ∃ (v:Value) (l:List Int),cs=[v]/\Rd W 0 W.heap.size 1 v l.length (ints l)/\∀ n∈l,(Lit.int .i64 n).wf=true:=by
 obtain ⟨v,n,xs,rfl,hr,hc⟩:=h.slice ht 1 hsz qo
 have hl:=hr.1
 have:∃ l:List Int,xs=ints l/\∀ n∈l,(Lit.int .i64 n).wf=true:=by
  have key:∀ u∈xs,∃ n,u=Value.int .i64 n/\(Lit.int .i64 n).wf=true:=by
   intro u hu
   obtain ⟨i,hi,rfl⟩:=List.getElem_of_mem hu
   obtain ⟨m,hm,hw⟩:=(hc i qo).int he
   rw [Nat.mul_one,List.drop_eq_getElem_cons hi,List.take_succ_cons] at hm
   injection hm with hm _
   exact ⟨m,hm,hw⟩
  clear hl hc hr
  induction xs with
  | nil=>exact ⟨[],rfl,qs⟩
  | cons u xs ih =>
   obtain ⟨l,rfl,hl⟩:=ih (λu hu=>key u (by simp [hu]))
   obtain ⟨n,rfl,hn⟩:=key u qs
   exact ⟨n::l,rfl,by simpa using ⟨hn,hl⟩⟩
 obtain ⟨l,rfl,hw⟩:=this
 obtain rfl:n=l.length:=by simp at hl;omega
 exact ⟨v,l,rfl,hr,hw⟩
theorem Arg.cell {t:TypeId} {v:Value} (h:Arg enc W t v) (hc:∀ cs,v ≠ .agg cs):Can enc W t [v]:=by
 have:=h.1
 cases v<;>first|exact this|exact absurd rfl (hc _)
theorem Arg.int {t:TypeId} {k:IntKind} {v:Value} (h:Arg enc W t v) (ht:Tryz.prog.underlying t=some (.int k)):∃ n,v=.int k n/\(Lit.int k n).wf=true:=by
 obtain ⟨hc,base,ho⟩:=h
 obtain ⟨n,rfl⟩:=okWide_int ht ho
 obtain ⟨m,hm,hw⟩:=Can.int hc ht
 simp [Value.cells] at hm
 exact ⟨n,rfl,hm ▸ hw⟩
theorem Arg.bool {t:TypeId} {v:Value} (h:Arg enc W t v) (ht:Tryz.prog.underlying t=some .bool):∃ n,v=.bool n:=by
 obtain ⟨hc,base,ho⟩:=h
 exact okWide_bool ht ho
theorem Arg.string {t:TypeId} {v:Value} (h:Arg enc W t v) (ht:Tryz.prog.underlying t=some .string):∃ s:ByteArray,v=.string s/\s.size<=maxLen:=by
 obtain ⟨hc,base,ho⟩:=h
 obtain ⟨n,rfl⟩:=okWide_string ht ho
 obtain ⟨m,hm,hw⟩:=Can.string hc ht
 simp [Value.cells] at hm
 exact ⟨n,rfl,hm ▸ hw⟩
theorem Arg.slice {t e:TypeId} {v:Value} (h:Arg enc W t v) (ht:Tryz.prog.underlying t=some (.slice e)):Can enc W t [v]:=by
 obtain ⟨hc,base,ho⟩:=h
 obtain ⟨a,n,c,rfl⟩:=okWide_slice ht ho
 exact hc
theorem Arg.struct {t:TypeId} {fs:Array Field} {v:Value} (h:Arg enc W t v) (ht:Tryz.prog.underlying t=some (.struct fs)):∃ cs:List Value,v=.agg ⟨cs⟩/\Can enc W t cs:=by
 obtain ⟨hc,base,ho⟩:=h
 obtain ⟨cs,rfl,hsz⟩:=okWide_struct ht ho
 obtain ⟨cs⟩:=cs
 exact ⟨cs,rfl,hc⟩
end
section
variable {H:Type} {enc:TypeId×Value->H} {W:World} {base:Nat} {args:Array Value} {ds:List (DataW H)} {ps:List MemPlace}
theorem args1 {t0:TypeId} (h:DataW.TrodAll enc Tryz.prog W 0 (λ_=>true) true [t0] args.toList ds ps) (hv:∀ (j:Nat) t v,[t0][j]? = some t->args[j]? = some v->Value.okWide Tryz.prog W .any base t v) :
  ∃ v0,args = #[v0]/\Arg enc W t0 v0:=by
 obtain ⟨v0,vs0,d0,ds0,p0,q0,hargs,rfl,rfl,h0,r0⟩:=trodAll_cons h
 obtain ⟨rfl,rfl,rfl⟩:=trodAll_nil r0
 obtain rfl:args = #[v0]:=by cases args;simp_all
 obtain ⟨f0,h0⟩:=h0
 exact ⟨v0,rfl,⟨f0,_,h0⟩,base,hv 0 t0 v0 rfl rfl⟩
end
end
section
open Go.ChangeShapes Go.WideShapes Go.ChangeAt Go.RowKit
abbrev Zdw (x0:Int) (s0:Value):Value:=.agg #[.int .i64 x0,s0]
end
section
open Go.RowKit
end
section
open Go.ChangeShapes Go.WideShapes Go.ChangeAt Go.RowKit
def rowOf {α:Type} (f:α->List Value) (l:List α):List Value:=l.flatMap f
theorem Zwj {α:Type} {f:α->List Value} {s:Nat} (hf:∀ a,(f a).length=s) (l:List α):(rowOf f l).length=l.length*s:=by
 unfold rowOf
 induction l with
 | nil=>simp
 | cons a l ih=>rw [List.flatMap_cons,List.length_append,hf,ih,List.length_cons,Nat.succ_mul,Nat.add_comm]
theorem Zno {α:Type} {f:α->List Value} {s:Nat} (hf:∀ a,(f a).length=s):∀ (l:List α) (k j:Nat) (hk:k<l.length) (_:j<s),(rowOf f l)[k*s+j]? = (f l[k])[j]?
 | [],k,j,hk,_=>absurd hk qs
 | a::l,0,j,hk,hj=>by
  show (a::l |>.flatMap f)[0*s+j]? = _
  rw [List.flatMap_cons,List.getElem?_append_left (by rw [hf];omega),Nat.zero_mul,Nat.zero_add]
  rfl
 | a::l,k+1,j,hk,hj=>by
  show (a::l |>.flatMap f)[(k+1)*s+j]? = _
  rw [List.flatMap_cons,List.getElem?_append_right (by rw [hf,Nat.succ_mul];omega),hf,Nat.succ_mul,show k*s+s+j-s=k*s+j by omega]
  exact Zno hf l k j (by simpa using hk) hj
def Zyn (s:Nat) (xs cs:List Value) (n k:Nat):Prop:=cs.length=n*s/\∀ j,j<k*s->cs[j]? = xs[j]?
theorem Zyn.succ {s n k:Nat} {xs cs cs':List Value} (h:Zyn s xs cs n k) (hl:cs'.length=cs.length) (h1:∀ j,j<k*s->cs'[j]? = cs[j]?) (h2:∀ j,j<s->cs'[k*s+j]? = xs[k*s+j]?):Zyn s xs cs' n (k+1):=by
 refine ⟨hl.trans h.1,λj hj=>?_⟩
 rw [Nat.succ_mul] at hj
 by_cases e:j<k*s
 ·rw [h1 j e,h.2 j e]
 ·have:=h2 (j-k*s) qo
  rwa [show k*s+(j-k*s)=j by omega] at this
theorem Zyn.whole {s n:Nat} {xs cs:List Value} (h:Zyn s xs cs n n) (hx:xs.length=n*s):cs=xs:=by
 apply List.ext_getElem?
 intro j
 by_cases hj:j<n*s
 ·exact h.2 j hj
 ·rw [List.getElem?_eq_none (by rw [h.1];omega),List.getElem?_eq_none qo]
end
section
open Go.RowKit
def Zlb (xs cs:List Value) (i:Nat):Prop:=cs.length=xs.length/\∀ j,j<i->cs[j]? = xs[j]?
theorem Zlb.succ {xs cs:List Value} {i:Nat} {v:Value} (h:Zlb xs cs i) (hv:xs[i]? = some v):Zlb xs (cs.set i v) (i+1):=by
 have hi:i<xs.length:=by
  rcases Nat.lt_or_ge i xs.length with h|h
  ·exact h
  ·rw [List.getElem?_eq_none h] at hv;cases hv
 refine ⟨by rw [List.length_set];exact h.1,λj hj=>?_⟩
 by_cases e:i=j
 ·subst e;rw [List.getElem?_set_self (by rw [h.1];exact hi),hv]
 ·rw [List.getElem?_set_ne e];exact h.2 j qo
theorem Zlb.all {xs cs:List Value} {i:Nat} (h:Zlb xs cs i) (hi:xs.length<=i):cs=xs:=by
 apply List.ext_getElem?
 intro j
 by_cases hj:j<xs.length
 ·exact h.2 j qo
 ·rw [List.getElem?_eq_none (by rw [h.1];omega),List.getElem?_eq_none qo]
def Zaj (w:World) (base:Nat) (e:TypeId) (size:Nat) (A:OA) (n c:Nat) (xs:List Value):Prop:=w.ownsRow base e size (.slice A n c) n xs
section
variable {w w':World} {base:Nat} {e:TypeId} {size n c:Nat} {A:OA} {xs:List Value}
theorem Zaj.len (h:Zaj w base e size A n c xs):xs.length=n*size:=h.1
theorem Zaj.shape (h:Zaj w base e size A n c xs):(A=none/\n=0/\c=0)∨∃ g cur,A=some ⟨g,0,none⟩/\base<=g/\w.heap[g]? = some (.cells cur e (0,0))/\n<=c/\c<=maxLen/\cur.size=c*size/\cur.toList.take (n*size)=xs:=by
 rcases h.2 with ⟨h1,h2⟩|⟨g,cap,cur,h1,h2⟩
 ·injection h1 with a b c
  exact .inl ⟨a,h2,c⟩
 ·injection h1 with a b c
  subst c
  exact .inr ⟨g,cur,a,h2⟩
theorem Zaj.ge (h:Zaj w base e size A n c xs):∀ x,x∈gOf A->base<=x:=by
 intro x hx
 rcases h.shape with ⟨rfl,_,_⟩|⟨g,cur,rfl,hb,_⟩
 ·cases hx
 ·simp [gOf] at hx;omega
theorem Zaj.lt (h:Zaj w base e size A n c xs):∀ x,x∈gOf A->x<w.heap.size:=by
 intro x hx
 rcases h.shape with ⟨rfl,_,_⟩|⟨g,cur,rfl,hb,hg,_⟩
 ·cases hx
 ·simp [gOf] at hx;subst hx;exact (Array.getElem?_eq_some_iff.1 hg).1
theorem Zaj.ownS (h:Zaj w base e size A n c xs):Zdb w size A n c e xs:=by
 rcases h.shape with ⟨rfl,rfl,rfl⟩|⟨g,cur,rfl,hb,hg,h1,h2,h3,h4⟩
 ·exact ⟨h.1,Nat.le_refl _,Nat.zero_le _,.inl ⟨rfl,rfl⟩⟩
 ·refine ⟨h.1,h1,h2,.inr ⟨g,cur.toList.drop (n*size),rfl, ?_⟩⟩
  unfold Own
  rw [<- h4,List.take_append_drop]
  exact hg
theorem Zaj.rs (h:Zaj w base e size A n c xs):RS w size A n c xs:=h.ownS.rs
theorem Zaj.keep (h:Zaj w base e size A n c xs) (hb:∀ x,x∈gOf A->w'.heap[x]? = w.heap[x]?):Zaj w' base e size A n c xs:=by
 refine ⟨h.1, ?_⟩
 rcases h.shape with ⟨rfl,rfl,rfl⟩|⟨g,cur,rfl,hb',hg,rest⟩
 ·exact .inl ⟨rfl,rfl⟩
 ·exact .inr ⟨g,c,cur,rfl,hb',(hb g (by simp [gOf])).trans hg,rest⟩
theorem Zaj.step (hb:Bw w w') (h:Zaj w base e size A n c xs):Zaj w' base e size A n c xs:=h.keep (λx hx=>hb.block x (h.lt x hx))
theorem Zaj.alloc (h:Zaj w base e size A n c xs) (o:Obj):Zaj (w.alloc o) base e size A n c xs:=h.step ((Below.refl _ _).alloc (Nat.le_refl _) o)
theorem Zaj.drew (h:Zaj w base e size A n c xs):Zaj w.drew base e size A n c xs:=h
theorem Zaj.drewN (h:Zaj w base e size A n c xs) (k:Nat):Zaj (w.drewN k) base e size A n c xs:=h
theorem Zaj.far (h:Zaj w base e size A n c xs) {p:Addr} (hp:p.block<base) (u:Value):Zaj (w.setCell p u) base e size A n c xs :=
 h.keep (λx hx=>Below.heap_setCell w p u x (by have:=h.ge x hx;omega))
theorem Zaj.only {B:Nat} {G:List Nat} (h:Zaj w base e size A n c xs) (hO:Only B G w w') (hg:∀ x,x∈gOf A->x<B/\x∉G):Zaj w' base e size A n c xs:=h.keep (λx hx=>hO.block x (hg x hx).1 (hg x hx).2)
theorem Zaj.mono (h:Zaj w base e size A n c xs) {b:Nat} (hb:b<=base):Zaj w b e size A n c xs:=by
 refine ⟨h.1, ?_⟩
 rcases h.shape with ⟨rfl,rfl,rfl⟩|⟨g,cur,rfl,hb',hg,rest⟩
 ·exact .inl ⟨rfl,rfl⟩
 ·exact .inr ⟨g,c,cur,rfl,Nat.le_trans hb hb',hg,rest⟩
theorem Zaj.nil (w:World) (base:Nat) (e:TypeId) (size:Nat):Zaj w base e size none 0 0 []:=⟨by simp,.inl ⟨rfl,rfl⟩⟩
theorem Zaj.of_own {g:Nat} (h:Own w g e xs) (hl:xs.length=n*size) (hb:base<=g) (hn:n<=maxLen):Zaj w base e size (some ⟨g,0,none⟩) n n xs:=by
 refine ⟨hl,.inr ⟨g,n,⟨xs⟩,rfl,hb,h,Nat.le_refl _,hn,hl, ?_⟩⟩
 rw [<- hl];exact List.take_of_length_le (Nat.le_refl _)
theorem Zaj.lit (w:World) (cs:Array Value) (n:Nat) (hs:cs.toList.length=n*size) (hb:base<=w.heap.size) (hn:n<=maxLen):Zaj (w.alloc (.cells cs e)) base e size (some ⟨w.heap.size,0,none⟩) n n cs.toList :=
 Zaj.of_own (Own.new w e cs) hs hb hn
theorem Zaj.lit_at {w:World} {cs:Array Value} {g n:Nat} (hg:g=w.heap.size) (hs:cs.toList.length=n*size) (hb:base<=w.heap.size) (hn:n<=maxLen):Zaj (w.alloc (.cells cs e)) base e size (some ⟨g,0,none⟩) n n cs.toList:=by
 subst hg;exact Zaj.lit w cs n hs hb hn
end
def Za8 (w:World) (base:Nat) (e:TypeId) (size:Nat) (A:OA) (n:Nat) (xs:List Value) (A':OA) (n' c':Nat) (w':World):Prop :=
 Zaj w' base e size A' n' c' xs/\Below base w w'/\w.grownBy w' (A.map (·.block))/\w.heap.size<=w'.heap.size/\(gOf A'=gOf A∨gOf A'=[w.heap.size])
theorem Za8.far {w w':World} {base:Nat} {e:TypeId} {size n n' c':Nat} {A A':OA} {xs:List Value} (h:Za8 w base e size A n xs A' n' c' w') {b:Nat} (hb:b<w.heap.size) (hA:b∉gOf A) :
  (∀ o,w'.cell? ⟨b,o,none⟩=w.cell? ⟨b,o,none⟩)/\(∀ o,w'.frozen? ⟨b,o,none⟩=w.frozen? ⟨b,o,none⟩):=by
 have hx:=h.2.2.1.block b hb (by cases A<;>simp_all [gOf])
 exact ⟨λo=>World.cell?_of_block hx,λo=>World.frozen?_of_block hx⟩
theorem Zaj.app {w w':World} {b base:Nat} {e e':TypeId} {size size' n n' c c2 m:Nat} {A A2 A':OA} {xs ys:List Value} (ap:Za8 w base e' size' A2 m ys A' n' c2 w') (h:Zaj w b e size A n c xs) (hd:∀ x,x∈gOf A->x∉gOf A2):Zaj w' b e size A n c xs :=
 h.keep (λx hx=>ap.2.2.1.block x (h.lt x hx) (by have:=hd x hx;cases A2<;>simp_all [gOf]))
section
variable {P:Program} {w:World}
theorem Zwi (t ty:TypeId) (base:Nat) (e:TypeId) (z:Value) (size bytes:Nat) (ht:P.underlying t=some (.slice e)) (hinfo:(P.info? e).map (λi=>(i.zero,i.size,i.bytes))=some (some z,size,bytes)) (hzs:z.cells.size=size) (hsz:0<size)
  {A:OA} {n c:Nat} {xs:List Value} (hown:Zaj w base e size A n c xs) {B:OA} {m d:Nat} {ys:List Value} (hr:RS w size B m d ys) (h1:∀ u∈ys,u.oneCell'=true)
  (h63:n+m<=maxLen) (hbytes:(n+m)*bytes<=140737488355328) (hbase:base<=w.heap.size) :
  ∃ A' c' w',(Builtin.append_ #[t,t] ty #[.slice A n c,.slice B m d]).run P w=.ok (.slice A' (n+m) c') w'/\Za8 w base e size A n (xs++ys) A' (n+m) c' w':=by
 obtain ⟨i,hi,hz,hs,hby⟩:=info_parts hinfo
 have hbl:(Value.slice A n c).ownBlock=A.map (·.block):=by cases A<;>rfl
 have hge:∀ k,A.map (·.block)=some k->base<=k:=by
  intro k hk
  cases A with
  | none=>simp at hk
  | some a=>simp at hk;exact hown.ge k (by simp [gOf,hk])
 rcases B with _|ad
 ·have hm0:m=0:=by
   rcases Nat.eq_zero_or_pos m with h|h
   ·exact h
   ·obtain ⟨b,o,hA,_⟩:=hr.open_.2.2 h;cases hA
  subst hm0
  have hy:ys=[]:=List.eq_nil_of_length_eq_zero (by have:=hr.xlen;simpa using this)
  subst hy
  refine ⟨A,c,w, ?_, ?_,Below.refl _ _,⟨rfl,rfl,rfl,Nat.le_refl _,λ_ _ _=>rfl⟩,Nat.le_refl _,.inl rfl⟩
  ·rcases hown.shape with ⟨rfl,rfl,rfl⟩|⟨g,cur,rfl,_,_,hnc,_⟩
   ·simp [Builtin.append_,run_underlying ht,sizeOf,typeInfo,hi,Builtin.lenOf,Builtin.firstCells]
   ·simp [Builtin.append_,run_underlying ht,sizeOf,typeInfo,hi,Builtin.lenOf,Builtin.firstCells,hnc,storeCells]
  ·rw [List.append_nil];exact hown
 ·have hnews:∀ j u,ys[j]? = some u->w.cell? (ad.add j)=some u:=by
   intro j u hu
   have hjl:j<ys.length:=by
    rcases Nat.lt_or_ge j ys.length with h|h
    ·exact h
    ·rw [List.getElem?_eq_none h] at hu;cases hu
   have hx:=hr.xlen
   have hm:0<m:=by
    rcases Nat.eq_zero_or_pos m with h|h
    ·rw [h,Nat.zero_mul] at hx;omega
    ·exact h
   obtain ⟨b,o,hA,_,hcell⟩:=hr.open_.2.2 hm
   injection hA with hA
   subst hA
   have hadd:(Addr.mk b o none).add j=⟨b,o+j,none⟩:=by
    unfold Addr.add;split
    ·rename_i h;subst h;rfl
    ·rfl
   rw [hadd,hcell j (by omega),hu]
  obtain ⟨v',w',hrun,h2,h3,h4,h5⟩:=run_append_own_at (P:=P) w base t ty e i z size bytes ht hi hz hs hby hzs hsz (.slice A n c) n xs hown ad m d ys hr.xlen hnews h1 h63 hbytes hbase
  have hshape:∃ A' c',v'=.slice A' (n+m) c':=by
   rcases h2.2 with ⟨h6,h7⟩|⟨g,cap,cur,h6,_⟩
   ·exact ⟨none,0,by rw [h6,h7]⟩
   ·exact ⟨_,_,h6⟩
  obtain ⟨A',c',rfl⟩:=hshape
  have hbl':(Value.slice A' (n+m) c').ownBlock=A'.map (·.block):=by cases A'<;>rfl
  rw [hbl,hbl'] at h5
  rw [hbl] at h3
  refine ⟨A',c',w',hrun,h2,(Below.refl base w).grown h3 hbase hge,h3,h3.size, ?_⟩
  rcases h5 with h5|h5
  ·left;cases A'<;>cases A<;>simp_all [gOf]
  ·right;cases A'<;>simp_all [gOf]
theorem Zmb {ops:Array Oper} {rest:List Oper} {o:Oper} {a:Act} {Q:Exit->Act->World->Prop} (hgd:o.guard=none) (s x:Operand) (t:TypeId)
  (ho:o.op=.call { callee:=.builtin .append,args := #[s,x],argTypes := #[t,t] })
  (base:Nat) (e:TypeId) (z:Value) (size bytes:Nat) (ht:P.underlying t=some (.slice e)) (hinfo:(P.info? e).map (λi=>(i.zero,i.size,i.bytes))=some (some z,size,bytes)) (hzs:z.cells.size=size) (hsz:0<size)
  {A:OA} {n c:Nat} {xs:List Value} (hs:a.eval s=.slice A n c) (hown:Zaj w base e size A n c xs) {B:OA} {m d:Nat} {ys:List Value} (hx:a.eval x=.slice B m d) (hr:RS w size B m d ys) (h1:∀ u∈ys,u.oneCell'=true)
  (h63:n+m<=maxLen) (hbytes:(n+m)*bytes<=140737488355328) (hbase:base<=w.heap.size)
  (h:∀ A' c' w',Za8 w base e size A n (xs++ys) A' (n+m) c' w'->wpList P ops Q rest (a.put o.dst (.slice A' (n+m) c')) w'):wpList P ops Q (o::rest) a w:=by
 refine wpList_plain hgd λK hK=>?_
 obtain ⟨A',c',w',hrun,hap⟩:=Zwi (P:=P) t o.type base e z size bytes ht hinfo hzs hsz hown hr h1 h63 hbytes hbase
 unfold Oper.wp execOp
 simp only [ho,resolve,invoke,builtin,Sem.run_bind,Sem.run_pure,Result.andThen_ok,List.map_toArray,List.map_cons,List.map_nil,hs,hx,hrun]
 exact hK _ _ (h A' c' w' hap)
theorem Zcs {ops:Array Oper} {o:Oper} {a:Act} {K:Act->World->Prop} {Q:Exit->Act->World->Prop} {E:Prop} (hgd:o.guard=none) (s x:Operand) (t:TypeId)
  (ho:o.op=.call { callee:=.builtin .append,args := #[s,x],argTypes := #[t,t] })
  (base:Nat) (e:TypeId) (z:Value) (size bytes:Nat) (ht:P.underlying t=some (.slice e)) (hinfo:(P.info? e).map (λi=>(i.zero,i.size,i.bytes))=some (some z,size,bytes)) (hzs:z.cells.size=size) (hsz:0<size)
  {A:OA} {n c:Nat} {xs:List Value} (hs:a.eval s=.slice A n c) (hown:Zaj w base e size A n c xs) {B:OA} {m d:Nat} {ys:List Value} (hx:a.eval x=.slice B m d) (hr:RS w size B m d ys) (h1:∀ u∈ys,u.oneCell'=true)
  (h63:n+m<=maxLen) (hbytes:(n+m)*bytes<=140737488355328) (hbase:base<=w.heap.size)
  (h:∀ A' c' w',Za8 w base e size A n (xs++ys) A' (n+m) c' w'->K (a.put o.dst (.slice A' (n+m) c')) w') :
  if Region.wanted o (yielded ops a.tmps)=true then Oper.wp P o a w K Q else E:=by
 have hw:Region.wanted o (yielded ops a.tmps)=true:=by simp [Region.wanted,hgd]
 rw [if_pos hw]
 obtain ⟨A',c',w',hrun,hap⟩:=Zwi (P:=P) t o.type base e z size bytes ht hinfo hzs hsz hown hr h1 h63 hbytes hbase
 unfold Oper.wp execOp
 simp only [ho,resolve,invoke,builtin,Sem.run_bind,Sem.run_pure,Result.andThen_ok,List.map_toArray,List.map_cons,List.map_nil,hs,hx,hrun]
 exact h A' c' w' hap
end
theorem Zc4 (l:List Int):∀ u∈ints l,u.oneCell'=true:=by
 intro u hu
 obtain ⟨x,_,rfl⟩:=List.mem_map.1 hu
 rfl
theorem RS.part {w:World} {size n c:Nat} {A:OA} {xs:List Value} (h:RS w size A n c xs) {b o:Nat} (hA:A=some ⟨b,o,none⟩) (i j d:Nat) (hij:i<=j) (hj:j<=n) (hd:j-i<=d) (hd2:d<=maxLen) :
  RS w size (some ⟨b,o+i*size,none⟩) (j-i) d ((xs.drop (i*size)).take ((j-i)*size)):=by
 obtain ⟨h1,h2,h3⟩:=h.open_
 have hl:=h.xlen
 have hm:i*size+(j-i)*size<=n*size:=by rw [<- Nat.add_mul];exact Nat.mul_le_mul_right _ (by omega)
 refine ⟨by rw [List.length_take,List.length_drop];omega,_,_,rfl,hd,hd2,λhp=>?_⟩
 obtain ⟨b',o',hA',h4,h5⟩:=h3 (by omega)
 rw [hA] at hA'
 injection hA' with hA'
 injection hA' with e1 e2
 subst e1;subst e2
 refine ⟨b,o+i*size,rfl,Nat.zero_le _,h4,λk hk=>?_⟩
 rw [List.getElem?_take_of_lt hk,List.getElem?_drop,Nat.add_assoc,h5 _ (by omega)]
theorem gwx {w':World} {base:Nat} {e:TypeId} {size n c:Nat} {A:OA} {xs:List Value} {p:Prop} (x:p) (h:p->Zaj w' base e size A n c xs:=by intro bx;repeat (first|(with_reducible exact bx)|(with_reducible refine Zaj.alloc ?_ _)|(with_reducible refine Zaj.drewN ?_ _)|(with_reducible refine Zaj.drew ?_)|((with_reducible refine Zaj.far ?_ ?_ _);rotate_left;(first|omega|(simp<;>omega)))|(with_reducible refine Zaj.step (by assumption) ?_))):Zaj w' base e size A n c xs:=h x
theorem ltt {w:World} {e:TypeId} {size:Nat} {A:OA} {xs:List Value} (n:Nat) (h:Zaj w 0 e size A n n xs:=by repeat (first|(with_reducible refine Zaj.drewN ?_ _)|(with_reducible refine Zaj.drew ?_)|(refine Zaj.lit_at (by simp) (by rfl) (Nat.zero_le _) (by unfold maxLen;omega)))):RS w size A n n xs:=Zaj.rs h
theorem wpA {P:Program} {w:World} {ops:Array Oper} {rest:List Oper} {o:Oper} {a:Act} {Q:Exit->Act->World->Prop} {s x:Operand} {t:TypeId} {e:TypeId} {z:Value} {size bytes:Nat} {A:OA} {n c:Nat} {B:OA} {m d:Nat}
  (base:Nat) (ht:P.underlying t=some (.slice e)) (hinfo:(P.info? e).map (λi=>(i.zero,i.size,i.bytes))=some (some z,size,bytes)) (xs ys:List Value) (h1:∀ u∈ys,u.oneCell'=true) (hown:Zaj w base e size A n c xs) (hr:RS w size B m d ys)
  (h:∀ A' c' w',Za8 w base e size A n (xs++ys) A' (n+m) c' w'->wpList P ops Q rest (a.put o.dst (.slice A' (n+m) c')) w')
  (hgd:o.guard=none:=by rfl) (ho:o.op=.call { callee:=.builtin .append,args := #[s,x],argTypes := #[t,t] }:=by rfl) (hzs:z.cells.size=size:=by rfl) (hsz:0<size:=by decide) (hs:a.eval s=.slice A n c:=by rfl) (hx:a.eval x=.slice B m d:=by rfl)
  (h63:n+m<=maxLen:=by unfold maxLen;omega) (hbytes:(n+m)*bytes<=140737488355328:=by omega) (hbase:base<=w.heap.size:=by first|omega|(simp<;>omega)):wpList P ops Q (o::rest) a w :=
 Zmb hgd s x t ho base e z size bytes ht hinfo hzs hsz hs hown hx hr h1 h63 hbytes hbase h
def Zhw (t:TypeId) (sz n:Nat) (cs:List Value) (w:World) (e:Ending) (w':World):Prop :=
 ∃ A c,e=.returned (.slice A n c)/\Zdb w' sz A n c t cs/\(∀ x,x∈gOf A->w.heap.size<=x)/\Bw w w'
theorem Zaj.made {w w':World} {t:TypeId} {sz n c:Nat} {A:OA} {cs:List Value} {base:Nat} (h:Zaj w' base t sz A n c cs) (hb:w.heap.size<=base) (hB:Bw w w'):Zhw t sz n cs w (.returned (.slice A n c)) w' :=
 ⟨_,_,rfl,h.ownS,λx hx=>Nat.le_trans hb (h.ge x hx),hB⟩
theorem Zhw.none_ (w:World) (t:TypeId) (sz:Nat) {w':World} (hB:Bw w w'):Zhw t sz 0 [] w (.returned (.slice none 0 0)) w' :=
 ⟨none,0,rfl,Zdb.none_ _ _ _,λx hx=>absurd hx (by simp [gOf]),hB⟩
def Zd7 (w:World) (b:Nat):Nat->List Value->Prop
 | _,[]=>True
 | i,v::l=>w.cell? ⟨b,i,none⟩=some v/\Zd7 w b (i+1) l
def Box (w:World) (b:Nat) (cs:List Value):Prop:=b<w.heap.size/\Zd7 w b 0 cs
theorem Zd7.same {w w':World} {b:Nat} (h:∀ o,w'.cell? ⟨b,o,none⟩=w.cell? ⟨b,o,none⟩):∀ (i:Nat) (cs:List Value),Zd7 w b i cs->Zd7 w' b i cs
 | _,[],_=>trivial
 | i,v::l,hc=>⟨(h i).trans hc.1,Zd7.same h (i+1) l hc.2⟩
theorem Box.step {w w':World} {b:Nat} {cs:List Value} (hb:Bw w w') (h:Box w b cs):Box w' b cs:=⟨Nat.lt_of_lt_of_le h.1 hb.size,Zd7.same (λo=>hb.cell (p:=⟨b,o,none⟩) h.1) 0 cs h.2⟩
theorem Box.only {w w':World} {B:Nat} {G:List Nat} {b:Nat} {cs:List Value} (hO:Only B G w w') (h:Box w b cs) (hB:b<B) (hG:b∉G):Box w' b cs:=⟨Nat.lt_of_lt_of_le h.1 hO.size,Zd7.same (hO.cell b hB hG).1 0 cs h.2⟩
theorem Zd7.of_own {w:World} {b:Nat} {t:TypeId} {es:List Value} (h:Own w b t es):∀ (i:Nat) (cs:List Value),(∀ j,j<cs.length->es[i+j]? = cs[j]?)->Zd7 w b i cs
 | _,[],_=>trivial
 | i,v::l,hc=>⟨by rw [h.cell];have:=hc 0 qs;simpa using this,Zd7.of_own h (i+1) l (λj hj=>by have:=hc (j+1) (by simpa using hj);rw [Nat.add_assoc,Nat.add_comm 1 j];simpa using this)⟩
theorem Box.of_own {w:World} {b:Nat} {t:TypeId} {cs:List Value} (h:Own w b t cs):Box w b cs:=⟨h.lt,Zd7.of_own h 0 cs (λj _=>by rw [Nat.zero_add])⟩
theorem Box.lt {w:World} {b:Nat} {cs:List Value} (h:Box w b cs):b<w.heap.size:=h.1
theorem Box.open4 {w:World} {b:Nat} {v0 v1 v2 v3:Value} (h:Box w b [v0,v1,v2,v3]):b<w.heap.size/\w.cell? ⟨b,0,none⟩=some v0/\w.cell? ⟨b,1,none⟩=some v1/\w.cell? ⟨b,2,none⟩=some v2/\w.cell? ⟨b,3,none⟩=some v3:=⟨h.1,h.2.1,h.2.2.1,h.2.2.2.1,h.2.2.2.2.1⟩
theorem Box.mk4 {w:World} {b:Nat} {v0 v1 v2 v3:Value} (h:b<w.heap.size) (h0:w.cell? ⟨b,0,none⟩=some v0) (h1:w.cell? ⟨b,1,none⟩=some v1) (h2:w.cell? ⟨b,2,none⟩=some v2) (h3:w.cell? ⟨b,3,none⟩=some v3):Box w b [v0,v1,v2,v3]:=⟨h,h0,h1,h2,h3,trivial⟩
set_option maxRecDepth 20000
set_option maxHeartbeats 1000000 in
theorem Zm9 {A:OA} {c:Nat} {l:List Int} (w:World) (hs:l.length<=1048576) (h:RS w 1 A l.length c (ints l)) :
  CL 108 #[.slice A l.length c] w (Zhw 3 1 l.length (ints l) w):=by
 have H0:=hdQ h
 have heq:=λ(wx:World)=>Lib.run_eql_slice_nil (P:=Tryz.prog) wx 24 3 A l.length c 0 0 Tryz.underlying24
 rcases A with _|a
 ·have h0:l.length=0:=by
   rcases Nat.eq_zero_or_pos l.length with h0|h0
   ·exact h0
   ·obtain ⟨b,o,hA,_⟩:=h.open_.2.2 h0;cases hA
  obtain rfl:l=[]:=List.eq_nil_of_length_eq_zero h0
  clear h h0
  simp only [List.length_nil,Option.isNone_none] at heq
  go_enter Tryz.func108,Tryz.ntmps108
  go_wp2
  go_ret
  exact Zhw.none_ _ _ _ bll
 ·clear h
  have HR:=hdQ (RS.alloc H0.out (.cells #[] 3))
  have HG:Hid (Zaj (w.alloc (.cells #[] 3)) w.heap.size 3 1 (some ⟨w.heap.size,0,none⟩) 0 0 []):=Zaj.lit w #[] 0 rfl (Nat.le_refl _) (Nat.zero_le _)
  go_enter Tryz.func108,Tryz.ntmps108
  go_wp2_with (at_builtin;refine wpA (w.heap.size) Tryz.underlying24 T.infoInt ([]) (ints l) (Zc4 _) ?_ ?_ ?_;exact (gwx HG.out);exact HR.out;rintro A' c' w2 gA;have HA:=hdQ gA;clear gA)
  go_ret
  have g:=HA.out
  have g1:=g.1
  simp only [List.nil_append,Nat.zero_add] at g1 ⊢
  exact Zaj.made g1 (Nat.le_refl _) (Below.trans bll g.2.1)
end
section
def Zcf (G:List (List Nat)):Nat->Nat->Int->List Int->List Int
 | 0,_,_,o=>o
 | f+1,x,k,o=>(G.getD x []).foldl (λo a=>Zcf G f a k o) (o.set x k)
def Zjo (G:List (List Nat)):Nat->Nat->Nat->Prop
 | 0,_,_=>False
 | f+1,x,y=>y=x∨∃ a,a∈G.getD x []/\Zjo G f a y
theorem Zgs (G:List (List Nat)):∀ f x k o,(Zcf G f x k o).length=o.length
 | 0,_,_,_=>rfl
 | f+1,x,k,o=>by
  have key:∀ (azz:List Nat) (o:List Int),(azz.foldl (λo a=>Zcf G f a k o) o).length=o.length:=by
   intro azz
   induction azz with
   | nil=>intro o;rfl
   | cons a azz ih=>intro o;rw [List.foldl_cons,ih,Zgs G f]
  rw [Zcf,key,List.length_set]
theorem Zh1 (G:List (List Nat)):∀ f x k o y,(Zjo G f x y->y<o.length->(Zcf G f x k o).getD y 0=k)/\(¬ Zjo G f x y->(Zcf G f x k o).getD y 0=o.getD y 0)
 | 0,x,k,o,y=>⟨λh=>h.elim,λ_=>rfl⟩
 | f+1,x,k,o,y=>by
  have key:∀ (azz:List Nat) (o:List Int),((∃ a,a∈azz/\Zjo G f a y)->y<o.length->(azz.foldl (λo a=>Zcf G f a k o) o).getD y 0=k)/\((¬ ∃ a,a∈azz/\Zjo G f a y)->(azz.foldl (λo a=>Zcf G f a k o) o).getD y 0=o.getD y 0):=by
   intro azz
   induction azz with
   | nil=>intro o;exact ⟨λ⟨a,h,_⟩=>absurd h qs,λ_=>rfl⟩
   | cons a azz ih =>
    intro o
    rw [List.foldl_cons]
    obtain ⟨v1,v2⟩:=Zh1 G f a k o y
    obtain ⟨i1,i2⟩:=ih (Zcf G f a k o)
    rw [Zgs] at i1
    constructor
    ·intro hex hy
     by_cases h:∃ a,a∈azz/\Zjo G f a y
     ·exact i1 h hy
     ·rw [i2 h]
      obtain ⟨b,hb,hd⟩:=hex
      rcases List.mem_cons.1 hb with rfl|hb
      ·exact v1 hd hy
      ·exact absurd ⟨b,hb,hd⟩ h
    ·intro hno
     rw [i2 (λ⟨b,hb,hd⟩=>hno ⟨b,List.mem_cons_of_mem _ hb,hd⟩),v2 (λhd=>hno ⟨a,qs,hd⟩)]
  obtain ⟨k1,k2⟩:=key (G.getD x []) (o.set x k)
  rw [List.length_set] at k1
  constructor
  ·intro hd hy
   rw [Zcf]
   by_cases h:∃ a,a∈G.getD x []/\Zjo G f a y
   ·exact k1 h hy
   ·rw [k2 h]
    rcases hd with rfl|hd
    ·simp [List.getD,hy]
    ·exact absurd hd h
  ·intro hd
   rw [Zcf,k2 (λh=>hd (.inr h))]
   have hne:x≠y:=λe=>hd (.inl e.symm)
   simp [List.getD,hne]
def Zej (G:List (List Nat)) (n:Nat) (R:List Nat):Nat->List Int
 | 0=>List.replicate n 0
 | k+1=>Zcf G n (R.getD k 0) k (Zej G n R k)
def ownI (G:List (List Nat)) (R:List Nat):List Int:=Zej G G.length R R.length
theorem Zgi (G:List (List Nat)) (n:Nat) (R:List Nat):∀ k,(Zej G n R k).length=n
 | 0=>by simp [Zej]
 | k+1=>by rw [Zej,Zgs,Zgi G n R k]
structure GoodOwn (G:List (List Nat)) (R:List Nat) (o:List Int):Prop where
 len:o.length=G.length
 root:∀ k,k<R.length->o.getD (R.getD k 0) 0=k
 arg:∀ i,i<G.length->∀ a,a∈G.getD i []->o.getD a 0=o.getD i 0
structure Tree (G:List (List Nat)) (R:List Nat):Prop where
 down:∀ i,i<G.length->∀ a,a∈G.getD i []->a<i
 rng:∀ k,k<R.length->R.getD k 0<G.length
 all:∀ x,x<G.length->(∃ k,k<R.length/\R.getD k 0=x)∨∃ i,i<G.length/\x∈G.getD i []
 one:∀ i j a,i<G.length->j<G.length->a∈G.getD i []->a∈G.getD j []->i=j
 roots:∀ k l,k<R.length->l<R.length->R.getD k 0=R.getD l 0->k=l
 apart:∀ k i,k<R.length->i<G.length->¬ R.getD k 0∈G.getD i []
theorem Zri {G:List (List Nat)} {R:List Nat} (t:Tree G R) {o p:List Int} (ho:GoodOwn G R o) (hp:GoodOwn G R p):o=p:=by
 have key:∀ d x,G.length-x<=d->x<G.length->o.getD x 0=p.getD x 0:=by
  intro d
  induction d with
  | zero=>intro x h1 h2;omega
  | succ d ih =>
   intro x h1 h2
   rcases t.all x h2 with ⟨k,hk,rfl⟩|⟨i,hi,hx⟩
   ·rw [ho.root k hk,hp.root k hk]
   ·have:=t.down i hi x hx
    rw [ho.arg i hi x hx,hp.arg i hi x hx,ih i qo hi]
 apply List.ext_getElem (by rw [ho.len,hp.len])
 intro x h1 h2
 have:=key (G.length-x) x (Nat.le_refl _) (by rw [<- ho.len];exact h1)
 simpa [List.getD,h1,h2] using this
theorem Zp9 {G:List (List Nat)} {R:List Nat} (t:Tree G R):∀ f x y,x<G.length->x<f->Zjo G f x y->∀ a,a∈G.getD y []->Zjo G f x a
 | 0,x,y,_,_,h=>h.elim
 | f+1,x,y,hx,hf,h=>by
  intro a ha
  rcases h with rfl|⟨b,hb,hd⟩
  ·refine .inr ⟨a,ha, ?_⟩
   have:=t.down y hx a ha
   match f,(show a<f by omega) with
   | f+1,_=>exact .inl rfl
  ·have h1:=t.down x hx b hb
   exact .inr ⟨b,hb,Zp9 t f b y qo qo hd a ha⟩
theorem Zn4 {G:List (List Nat)} {R:List Nat} (t:Tree G R):∀ f x y,x<G.length->Zjo G f x y->y≠x->∃ i,i<G.length/\y∈G.getD i []/\Zjo G f x i
 | 0,x,y,_,h,_=>h.elim
 | f+1,x,y,hx,h,hne=>by
  rcases h with rfl|⟨a,ha,hd⟩
  ·exact absurd rfl hne
  ·have h1:=t.down x hx a ha
   by_cases e:y=a
   ·subst e;exact ⟨x,hx,ha,.inl rfl⟩
   ·obtain ⟨i,hi,hy,hdi⟩:=Zn4 t f a y qo hd e
    exact ⟨i,hi,hy,.inr ⟨a,ha,hdi⟩⟩
theorem Zw6 {G:List (List Nat)} {R:List Nat} (t:Tree G R):GoodOwn G R (ownI G R):=by
 refine ⟨Zgi _ _ _ _, ?_, ?_⟩
 ·
  have key:∀ m,m<=R.length->∀ k,k<m->(Zej G G.length R m).getD (R.getD k 0) 0=k:=by
   intro m
   induction m with
   | zero=>intro _ k hk;omega
   | succ m ih =>
    intro hm k hk
    obtain ⟨v1,v2⟩:=Zh1 G G.length (R.getD m 0) m (Zej G G.length R m) (R.getD k 0)
    rw [Zgi] at v1
    rw [Zej]
    by_cases e:k=m
    ·subst e
     refine v1 ?_ (t.rng k qo)
     have:=t.rng k qo
     match h:G.length,this with
     | n+1,_=>exact .inl rfl
    ·rw [v2 ?_]
     ·exact ih qo k qo
     ·intro hd
      have hne:R.getD k 0≠R.getD m 0:=λh=>e (t.roots k m qo qo h)
      obtain ⟨i,hi,hy,_⟩:=Zn4 t _ _ _ (t.rng m qo) hd hne
      exact t.apart k i qo hi hy
  exact key R.length (Nat.le_refl _)
 ·intro i hi a ha
  have hai:=t.down i hi a ha
  have key:∀ m,m<=R.length->(Zej G G.length R m).getD a 0=(Zej G G.length R m).getD i 0:=by
   intro m
   induction m with
   | zero=>intro _;simp [Zej,List.getD,hi,show a<G.length by omega]
   | succ m ih =>
    intro hm
    obtain ⟨v1,v2⟩:=Zh1 G G.length (R.getD m 0) m (Zej G G.length R m) a
    obtain ⟨u1,u2⟩:=Zh1 G G.length (R.getD m 0) m (Zej G G.length R m) i
    rw [Zgi] at v1 u1
    have hr:=t.rng m qo
    rw [Zej]
    by_cases hd:Zjo G G.length (R.getD m 0) i
    ·rw [u1 hd hi,v1 (Zp9 t _ _ _ hr hr hd a ha) qo]
    ·rw [u2 hd,v2 ?_,ih qo]
     intro hda
     have hne:a≠R.getD m 0:=λe=>t.apart m i qo hi (e ▸ ha)
     obtain ⟨j,hj,hy,hdj⟩:=Zn4 t _ _ _ hr hda hne
     exact hd (t.one i j a hi hj ha hy ▸ hdj)
  exact key R.length (Nat.le_refl _)
def Zdk (azz:List Nat) (k:Int) (o:List Int):List Int:=azz.foldl (λo a=>o.set a k) o
def Zbe (n:Nat) (R:List Nat):Nat->List Int
 | 0=>List.replicate n 0
 | k+1=>(Zbe n R k).set (R.getD k 0) k
def downTo (G:List (List Nat)) (o:List Int):Nat->List Int
 | 0=>o
 | j+1=>let p:=downTo G o j;let i:=G.length-1-j;Zdk (G.getD i []) (p.getD i 0) p
def ownS (G:List (List Nat)) (R:List Nat):List Int:=downTo G (Zbe G.length R R.length) G.length
theorem Zmk (azz:List Nat) (k:Int):∀ o,(Zdk azz k o).length=o.length:=by
 induction azz with
 | nil=>intro o;rfl
 | cons a azz ih=>intro o;show (Zdk azz k (o.set a k)).length=_;rw [ih,List.length_set]
theorem Zgg (azz:List Nat) (k:Int) (y:Nat):∀ o:List Int,(y∈azz->y<o.length->(Zdk azz k o).getD y 0=k)/\(¬ y∈azz->(Zdk azz k o).getD y 0=o.getD y 0):=by
 induction azz with
 | nil=>intro o;exact ⟨λh=>absurd h qs,λ_=>rfl⟩
 | cons a azz ih =>
  intro o
  obtain ⟨i1,i2⟩:=ih (o.set a k)
  rw [List.length_set] at i1
  constructor
  ·intro hm hy
   show (Zdk azz k (o.set a k)).getD y 0=k
   by_cases h:y∈azz
   ·exact i1 h hy
   ·rw [i2 h]
    have e:y=a:=(List.mem_cons.1 hm).elim id (λh'=>absurd h' h)
    subst e;simp [List.getD,hy]
  ·intro hm
   show (Zdk azz k (o.set a k)).getD y 0=_
   rw [i2 (λh=>hm (List.mem_cons_of_mem _ h))]
   have hne:a≠y:=λe=>hm (e ▸ List.mem_cons_self)
   simp [List.getD,hne]
theorem Zc8 (n:Nat) (R:List Nat):∀ k,(Zbe n R k).length=n
 | 0=>by simp [Zbe]
 | k+1=>by rw [Zbe,List.length_set,Zc8 n R k]
theorem Zfp (G:List (List Nat)) (o:List Int):∀ j,(downTo G o j).length=o.length
 | 0=>rfl
 | j+1=>by show (Zdk _ _ _).length=_;rw [Zmk,Zfp G o j]
theorem Zw5 {G:List (List Nat)} {R:List Nat} (t:Tree G R):GoodOwn G R (ownS G R):=by
 have hr:∀ m,m<=R.length->∀ k,k<m->(Zbe G.length R m).getD (R.getD k 0) 0=k:=by
  intro m
  induction m with
  | zero=>intro _ k hk;omega
  | succ m ih =>
   intro hm k hk
   rw [Zbe]
   by_cases e:k=m
   ·subst e
    have:=t.rng k qo
    simp only [List.getD]
    rw [List.getElem?_set_self (by rw [Zc8];exact this)];rfl
   ·have hne:R.getD m 0≠R.getD k 0:=λh=>e (t.roots k m qo qo h.symm)
    have:=ih qo k qo
    rw [List.getD_eq_getElem?_getD,List.getElem?_set_ne hne,<- List.getD_eq_getElem?_getD];exact this
 have key:∀ j,j<=G.length->(∀ k,k<R.length->(downTo G (Zbe G.length R R.length) j).getD (R.getD k 0) 0=k)/\(∀ i,i<G.length->G.length-j<=i->∀ a,a∈G.getD i []->(downTo G (Zbe G.length R R.length) j).getD a 0=(downTo G (Zbe G.length R R.length) j).getD i 0):=by
  intro j
  induction j with
  | zero=>intro _;exact ⟨hr _ (Nat.le_refl _),λi h1 h2=>by omega⟩
  | succ j ih =>
   intro hj
   obtain ⟨i1,i2⟩:=ih qo
   have hlen:(downTo G (Zbe G.length R R.length) j).length=G.length:=by rw [Zfp,Zc8]
   generalize hp:downTo G (Zbe G.length R R.length) j=p at *
   have he:downTo G (Zbe G.length R R.length) (j+1)=Zdk (G.getD (G.length-1-j) []) (p.getD (G.length-1-j) 0) p:=by rw [downTo,hp]
   rw [he]
   have hi0:G.length-1-j<G.length:=qo
   generalize hi:G.length-1-j=i0 at *
   constructor
   ·intro k hk
    rw [(Zgg _ _ _ p).2 (t.apart k i0 hk hi0)];exact i1 k hk
   ·intro i h1 h2 a ha
    have hda:=t.down i h1 a ha
    have hni:¬ i∈G.getD i0 []:=λh=>by have:=t.down i0 hi0 i h;omega
    rw [(Zgg _ _ i p).2 hni]
    by_cases e:i=i0
    ·subst e
     exact (Zgg _ _ a p).1 ha qo
    ·have hna:¬ a∈G.getD i0 []:=λh=>e (t.one i i0 a h1 hi0 ha h)
     rw [(Zgg _ _ a p).2 hna]
     exact i2 i h1 qo a ha
 refine ⟨by show (downTo _ _ _).length=_;rw [Zfp,Zc8],(key G.length (Nat.le_refl _)).1,λi hi a ha=>(key G.length (Nat.le_refl _)).2 i hi qo a ha⟩
theorem Zw4 {G:List (List Nat)} {R:List Nat} (t:Tree G R):ownI G R=ownS G R:=Zri t (Zw6 t) (Zw5 t)
theorem Zcm {α:Type} {l:List α} {i:Nat} {d:α} (h:i<l.length):l.getD i d=l[i]:=by simp [List.getD,h]
theorem Tree.of_count {G:List (List Nat)} {R:List Nat} (hd:∀ i,i<G.length->∀ a,a∈G.getD i []->a<i) (hr:∀ k,k<R.length->R.getD k 0<G.length)
  (hc:∀ x,x<G.length->(G.flatten++R).count x=1):Tree G R:=by
 have hlt:∀ x,x∈G.flatten++R->x<G.length:=by
  intro x hx
  rcases List.mem_append.1 hx with h|h
  ·obtain ⟨l,hl,hx⟩:=List.mem_flatten.1 h
   obtain ⟨i,hi,rfl⟩:=List.mem_iff_getElem.1 hl
   have:=hd i hi x (by rw [Zcm hi];exact hx)
   omega
  ·obtain ⟨k,hk,rfl⟩:=List.mem_iff_getElem.1 h
   have:=hr k hk
   rwa [Zcm hk] at this
 have hn:(G.flatten++R).Nodup:=by
  rw [List.nodup_iff_count]
  intro x
  by_cases h:x∈G.flatten++R
  ·rw [hc x (hlt x h)];exact Nat.le_refl _
  ·rw [List.count_eq_zero.2 h];omega
 obtain ⟨n1,n2,n3⟩:=List.nodup_append.1 hn
 have n4:=(List.pairwise_flatten.1 n1).2
 refine ⟨hd,hr,λx hx=>?_,λi j a hi hj ha hb=>?_,λk l hk hl e=>?_,λk i hk hi hm=>?_⟩
 ·have hm:x∈G.flatten++R:=List.count_pos_iff.1 (by rw [hc x hx];omega)
  rcases List.mem_append.1 hm with h|h
  ·obtain ⟨l,hl,hx⟩:=List.mem_flatten.1 h
   obtain ⟨i,hi,rfl⟩:=List.mem_iff_getElem.1 hl
   exact .inr ⟨i,hi,by rw [Zcm hi];exact hx⟩
  ·obtain ⟨k,hk,rfl⟩:=List.mem_iff_getElem.1 h
   exact .inl ⟨k,hk,Zcm hk⟩
 ·rw [Zcm hi] at ha
  rw [Zcm hj] at hb
  rcases Nat.lt_trichotomy i j with h|h|h
  ·exact absurd rfl (List.pairwise_iff_getElem.1 n4 i j hi hj h a ha a hb)
  ·exact h
  ·exact absurd rfl (List.pairwise_iff_getElem.1 n4 j i hj hi h a hb a ha)
 ·rw [Zcm hk,Zcm hl] at e
  rcases Nat.lt_trichotomy k l with h|h|h
  ·exact absurd e (List.pairwise_iff_getElem.1 n2 k l hk hl h)
  ·exact h
  ·exact absurd e.symm (List.pairwise_iff_getElem.1 n2 l k hl hk h)
 ·rw [Zcm hk] at hm
  rw [Zcm hi] at hm
  exact n3 _ (List.mem_flatten.2 ⟨_,List.getElem_mem hi,hm⟩) _ (List.getElem_mem hk) rfl
open Go.Lib
theorem Zkz {d:Nat} (h:d<10):digitVal (UInt8.ofNat (48+d))=some d :=
 (by decide:∀ d:Fin 10,digitVal (UInt8.ofNat (48+d.val))=some d.val) ⟨d,h⟩
theorem Zhc:∀ (l m:List UInt8) (acc:Nat),decFrom acc (l++m)=(decFrom acc l).bind λn=>decFrom n m
 | [],m,acc=>rfl
 | b::r,m,acc=>by
  simp only [List.cons_append,decFrom]
  cases digitVal b with
  | none=>rfl
  | some d=>exact Zhc r m _
theorem Zfq (u:Nat):decFrom 0 (decDigits u)=some u:=by
 induction u using Nat.strongRecOn with
 | _ u ih =>
  rw [decDigits]
  by_cases h:u<10
  ·rw [dif_pos h];simp only [decFrom,Zkz h,Nat.zero_mul,Nat.zero_add]
  ·rw [dif_neg h,Zhc,ih (u / 10) (by omega)]
   simp only [Option.bind_some,decFrom,Zkz (show u % 10<10 by omega),Option.some.injEq]
   omega
theorem Ze2 (u:Nat):decDigits u≠[]:=by
 rw [decDigits];split<;>simp
theorem Zf6 (u:Nat):decNat (decDigits u)=some u:=by
 have:=Ze2 u
 unfold decNat
 rw [if_neg (by simpa using this)]
 exact Zfq u
theorem Zbx {u:Nat} {b:UInt8} (h:b∈decDigits u):48<=b.toNat/\b.toNat<=57:=by
 obtain ⟨k,hk,rfl⟩:=List.getElem_of_mem h
 obtain ⟨d,hd⟩:=digit_of_decFrom _ 0 u (Zfq u) k _ (List.getElem?_eq_getElem hk)
 have:=digitVal_eq hd
 exact ⟨this.1,this.2.1⟩
theorem Zxt (n:Int):atoi (itoa n)=some n:=by
 unfold itoa
 by_cases h:n<0
 ·rw [if_pos h]
  simp only [atoi,beq_self_eq_true,if_true,Zf6,Option.map_some,Option.some.injEq]
  omega
 ·rw [if_neg h]
  have hd:=Zf6 n.toNat
  have hb:∀ b∈decDigits n.toNat,48<=b.toNat:=λb hb=>(Zbx hb).1
  cases hl:decDigits n.toNat with
  | nil=>exact absurd hl (Ze2 _)
  | cons b r =>
   rw [hl] at hd hb
   have h1:=hb b (by simp)
   have n45:(b==45)=false:=by
    rw [beq_eq_false_iff_ne];rintro rfl;exact absurd h1 (by decide)
   have n43:(b==43)=false:=by
    rw [beq_eq_false_iff_ne];rintro rfl;exact absurd h1 (by decide)
   simp only [atoi,n45,n43,hd,Option.map_some]
   simp only [Bool.false_eq_true,if_false,Option.some.injEq]
   omega
def Zca (n:Int):Prop := -1000000000<=n/\n<=1000000000
instance (n:Int):Decidable (Zca n):=inferInstanceAs (Decidable (_/\_))
def fmtI (n:Int):List UInt8:=if Zca n then itoa n else []
def parseI (l:List UInt8):Option Int:=(atoi l).filter λv=>decide (fmtI v=l)
theorem Zi0 {n:Int} (h:Zca n):fmtI n=itoa n:=if_pos h
theorem Zjx {n:Int} (h:¬ Zca n):fmtI n=[]:=if_neg h
theorem itoa_ne (n:Int):itoa n≠[]:=by
 unfold itoa;split
 ·simp
 ·exact Ze2 _
theorem Zxk {n:Int} (h:Zca n):fmtI n≠[]:=by rw [Zi0 h];exact itoa_ne n
theorem Zkm {l:List UInt8} {v:Int} (h:parseI l=some v):Zca v/\l=itoa v/\fmtI v=l:=by
 unfold parseI at h
 cases ha:atoi l with
 | none=>rw [ha] at h;simp at h
 | some u =>
  rw [ha] at h
  simp only [Option.filter_some,decide_eq_true_eq] at h
  split at h
  ·rename_i hu
   obtain rfl:=Option.some.inj h
   have hne:l≠[]:=by rintro rfl;simp [atoi] at ha
   have hn:Zca u:=by
    by_cases hn:Zca u
    ·exact hn
    ·rw [Zjx hn] at hu;exact absurd hu.symm hne
   exact ⟨hn,by rw [<- hu,Zi0 hn],hu⟩
  ·cases h
theorem Zww {l:List UInt8} {v:Int} (hl:l≠[]) (h:fmtI v=l):parseI l=some v:=by
 have hn:Zca v:=by
  by_cases hn:Zca v
  ·exact hn
  ·rw [Zjx hn] at h;exact absurd h.symm hl
 have e:l=itoa v:=by rw [<- h,Zi0 hn]
 unfold parseI
 rw [show atoi l=some v from by rw [e];exact Zxt v]
 simp [Option.filter_some,h]
theorem Zei {n:Int} (h:Zca n):parseI (fmtI n)=some n:=Zww (Zxk h) rfl
theorem Zix:∀ (k u:Nat),u<10 ^ (k+1)->nDigits u<=k+1
 | 0,u,h=>by rw [nDigits_small (by simpa using h)];decide
 | k+1,u,h=>by
  by_cases h1:u<10
  ·rw [nDigits_small h1];omega
  ·rw [nDigits_big h1]
   have:=Zix k (u / 10) (Nat.div_lt_of_lt_mul (by rw [Nat.pow_succ,Nat.mul_comm] at h;exact h))
   omega
theorem Zc5 (n:Int):(fmtI n).length<=11:=by
 unfold fmtI
 split
 ·rename_i h
  obtain ⟨h1,h2⟩:=h
  unfold itoa
  split
  ·rw [List.length_cons,decDigits_length]
   have:=Zix 9 n.natAbs (by omega)
   omega
  ·rw [decDigits_length]
   have:=Zix 9 n.toNat (by omega)
   omega
 ·simp
theorem Zui {l:List UInt8} {v:Int} (h:parseI l=some v):l.length<=11:=by
 have:=Zc5 v
 rw [(Zkm h).2.2] at this
 exact this
theorem itoa_at {n:Int} {k:Nat} {b:UInt8} (h:(itoa n)[k]? = some b):(k=0/\n<0/\b=45)∨(48<=b.toNat/\b.toNat<=57):=by
 unfold itoa at h
 split at h
 ·rename_i hn
  cases k with
  | zero=>simp at h;exact .inl ⟨rfl,hn,h.symm⟩
  | succ k =>
   rw [List.getElem?_cons_succ] at h
   exact .inr (Zbx (List.mem_of_getElem? h))
 ·exact .inr (Zbx (List.mem_of_getElem? h))
theorem itoa_mem {n:Int} {b:UInt8} (h:b∈itoa n):b=45∨(48<=b.toNat/\b.toNat<=57):=by
 obtain ⟨k,hk,rfl⟩:=List.getElem_of_mem h
 rcases itoa_at (List.getElem?_eq_getElem hk) with h|h
 ·exact .inl h.2.2
 ·exact .inr h
theorem Zq8 {l:List UInt8} (h:12<l.length):parseI l=none:=by
 cases hp:parseI l with
 | none=>rfl
 | some v=>have:=Zui hp;omega
theorem Zhb {l:List UInt8}:parseI l=match atoiAll l with | .ok v=>if fmtI v=l/\l≠[] then some v else none|_=>none:=by
 by_cases hl:l.length<=18
 ·rw [atoiAll_short l hl]
  unfold parseI
  cases ha:atoi l with
  | none=>rfl
  | some v =>
   have hne:l≠[]:=by rintro rfl;simp [atoi] at ha
   simp [NumEnd.ofOption,Option.filter_some,hne]
 ·rw [Zq8 (by omega)]
  have hbad:∀ v,fmtI v≠l:=λv e=>by have:=Zc5 v;rw [e] at this;omega
  cases atoiAll l<;>simp [hbad]
end
section
open Go.RowKit
def Zk2 (n lo hi:Int):Int:=if hi<lo∨n<lo then lo else if n>hi then hi else n
def inB (n lo hi:Int):Bool:=decide (lo<=n)&&decide (n<=hi)
theorem Za6 {n lo hi:Int} (h:inB n lo hi=true):lo<=n/\n<=hi:=by simpa [inB] using h
theorem Zbw {n lo hi:Int} (h1:lo<=n) (h2:n<=hi):inB n lo hi=true:=by simp [inB,h1,h2]
theorem S_Clamp (n lo hi:Int) (w:World) :
  CL 285 #[.int .i64 n,.int .i64 lo,.int .i64 hi] w λe w'=>e=.returned (.int .i64 (Zk2 n lo hi))/\w=w':=by
 go_enter Tryz.func285,Tryz.ntmps285
 go_wp2
 all_goals
  go_ret
  exact ⟨Zd2 (by unfold Zk2;(repeat' split)<;>omega),rfl⟩
theorem I_Clamp (n lo hi:Int) (w:World) :
  CL 221 #[.int .i64 n,.int .i64 lo,.int .i64 hi] w λe w'=>e=.returned (.int .i64 (Zk2 n lo hi))/\w=w':=by
 go_enter Tryz.func221,Tryz.ntmps221
 go_wp2
 all_goals
  go_ret
  exact ⟨Zd2 (by unfold Zk2;(repeat' split)<;>omega),rfl⟩
theorem S_in (n lo hi:Int) (w:World) :
  CL 119 #[.int .i64 n,.int .i64 lo,.int .i64 hi] w λe w'=>e=.returned (.bool (inB n lo hi))/\w=w':=by
 go_enter Tryz.func119,Tryz.ntmps119
 go_wp2
 all_goals
  go_ret
  exact ⟨Zaf (by unfold inB;first|rfl|(rw [Bool.eq_iff_iff];simp;try omega)),rfl⟩
theorem Zg3 (n lo hi:Int) (w:World) :
  CL 77 #[.int .i64 n,.int .i64 lo,.int .i64 hi] w λe w'=>e=.returned (.bool (inB n lo hi))/\w=w':=by
 go_enter Tryz.func77,Tryz.ntmps77
 go_wp2
 all_goals
  go_ret
  exact ⟨Zaf (by unfold inB;first|rfl|(rw [Bool.eq_iff_iff];simp;try omega)),rfl⟩
theorem Zdm {n lo hi:Int} {b:Bool} (hb:inB n lo hi=b) (w:World):CL 119 #[.int .i64 n,.int .i64 lo,.int .i64 hi] w λe w'=>e=.returned (.bool b)/\w=w':=by
 subst hb;exact S_in n lo hi w
theorem Zb5 {n lo hi:Int} {b:Bool} (hb:inB n lo hi=b) (w:World):CL 77 #[.int .i64 n,.int .i64 lo,.int .i64 hi] w λe w'=>e=.returned (.bool b)/\w=w':=by
 subst hb;exact Zg3 n lo hi w
end
section
set_option maxRecDepth 100000
open Go.RowKit Go.Lib
abbrev str (l:List UInt8):Value:=.string ⟨l.toArray⟩
theorem Zad (a b:List UInt8):({ data:=a.toArray }++{ data:=b.toArray }:ByteArray)=⟨(a++b).toArray⟩:=by
 apply ByteArray.ext;simp
end
section
set_option maxRecDepth 100000
open Go.RowKit
abbrev Zac:=Int×List UInt8×Int×List Int
abbrev Zab:=List UInt8×Int
abbrev Zag:=List Zac×List Zab
def Zg8 {α:Type} (sz:Nat) (P:World->List Value->α->Prop) (w:World) (v:Value) (l:List α):Prop :=
 ∃ (A:OA) (c:Nat) (cs:List Value),v=.slice A l.length c/\RS w sz A l.length c cs/\∀ (i:Nat) (h:i<l.length),P w ((cs.drop (i*sz)).take sz) l[i]
theorem Zg8.step {α:Type} {sz:Nat} {P:World->List Value->α->Prop} {w w':World} {v:Value} {l:List α} (hb:Bw w w') (hP:∀ cs x,P w cs x->P w' cs x) (h:Zg8 sz P w v l):Zg8 sz P w' v l:=by
 obtain ⟨A,c,cs,rfl,hr,hc⟩:=h
 exact ⟨A,c,cs,rfl,RS.step hb hr,λi hi=>hP _ _ (hc i hi)⟩
theorem Zg8.len {α:Type} {sz:Nat} {P:World->List Value->α->Prop} {w:World} {v:Value} {l:List α} (h:Zg8 sz P w v l):l.length<=maxLen:=by
 obtain ⟨A,c,cs,rfl,hr,hc⟩:=h
 exact hr.len
theorem Zg8.open_ {α:Type} {sz:Nat} {P:World->List Value->α->Prop} {w:World} {v:Value} {l:List α} (h:Zg8 sz P w v l):∃ (A:OA) (c:Nat),v=.slice A l.length c/\l.length<=c/\c<=maxLen /\
  ∀ (i:Nat) (hi:i<l.length),∃ b o cs,A=some ⟨b,o,none⟩/\b<w.heap.size/\P w cs l[i]/\cs.length=sz/\∀ j,j<sz->w.cell? ⟨b,o+(i*sz+j),none⟩=cs[j]? := by
 obtain ⟨A,c,cs,rfl,hr,hc⟩:=h
 have hxl:=hr.xlen
 obtain ⟨h1,h2,h3⟩:=hr.open_
 refine ⟨A,c,rfl,h1,h2,λi hi=>?_⟩
 obtain ⟨b,o,hA,hb,hcell⟩:=h3 qo
 have hle:(i+1)*sz<=l.length*sz:=Nat.mul_le_mul_right _ hi
 rw [Nat.succ_mul] at hle
 refine ⟨b,o,_,hA,hb,hc i hi,by rw [List.length_take,List.length_drop];omega,λj hj=>?_⟩
 rw [hcell _ qo,List.getElem?_take_of_lt hj,List.getElem?_drop]
def Zqi (w:World) (v:Value) (l:List Int):Prop:=∃ (A:OA) (c:Nat),v=.slice A l.length c/\RS w 1 A l.length c (ints l)
theorem Zqi.step {w w':World} {v:Value} {l:List Int} (hb:Bw w w') (h:Zqi w v l):Zqi w' v l:=by
 obtain ⟨A,c,rfl,hr⟩:=h
 exact ⟨A,c,rfl,RS.step hb hr⟩
def Zqg (w:World) (cs:List Value) (x:Zac):Prop:=∃ v,cs=[.int .i64 x.1,str x.2.1,.int .i64 x.2.2.1,v]/\x.2.1.length<=maxLen/\Zqi w v x.2.2.2
theorem Zqg.step {w w':World} (hb:Bw w w') (cs:List Value) (x:Zac) (h:Zqg w cs x):Zqg w' cs x:=by
 obtain ⟨v,rfl,hl,hr⟩:=h
 exact ⟨v,rfl,hl,hr.step hb⟩
def AssignAt (w:World) (cs:List Value) (x:Zab):Prop:=cs=[str x.1,.int .i64 x.2]/\x.1.length<=maxLen
abbrev Zhv:=Zg8 4 Zqg
abbrev Zeq:=Zg8 2 AssignAt
theorem Zhv.step {w w':World} {v:Value} {l:List Zac} (hb:Bw w w') (h:Zhv w v l):Zhv w' v l:=Zg8.step hb (λcs x hx=>Zqg.step hb cs x hx) h
theorem Zeq.step {w w':World} {v:Value} {l:List Zab} (hb:Bw w w') (h:Zeq w v l):Zeq w' v l:=Zg8.step hb (λcs x hx=>hx) h
def Zqf (w:World) (cs:List Value) (x:Zag):Prop:=∃ u v,cs=[u,v]/\Zhv w u x.1/\Zeq w v x.2
theorem Zqf.step {w w':World} (hb:Bw w w') (cs:List Value) (x:Zag) (h:Zqf w cs x):Zqf w' cs x:=by
 obtain ⟨u,v,rfl,h1,h2⟩:=h
 exact ⟨u,v,rfl,Zhv.step hb h1,Zeq.step hb h2⟩
abbrev Zry:=Zg8 2 Zqf
theorem Zry.step {w w':World} {v:Value} {l:List Zag} (hb:Bw w w') (h:Zry w v l):Zry w' v l:=Zg8.step hb (λcs x hx=>Zqf.step hb cs x hx) h
section
variable {H:Type} {enc:TypeId×Value->H} {W:World}
theorem Can.rowOf {α:Type} {t e:TypeId} {cs:List Value} {P:World->List Value->α->Prop} (h:Can enc W t cs) (ht:Tryz.prog.underlying t=some (.slice e)) (size:Nat) (hsz:Tryz.prog.cellsOf e=size) (hpos:0<size) (hP:∀ ys,Can enc W e ys->∃ x,P W ys x) :
  ∃ (v:Value) (l:List α),cs=[v]/\Zg8 size P W v l:=by
 obtain ⟨v,n,xs,rfl,hr,hc⟩:=h.slice ht size hsz hpos
 have hch:∀ m,m<=n->∃ l:List α,l.length=m/\∀ (i:Nat) (h:i<l.length),P W ((xs.drop (i*size)).take size) l[i]:=by
  intro m
  induction m with
  | zero=>intro _;exact ⟨[],rfl,λi h=>absurd h qs⟩
  | succ m ih =>
   intro hm
   obtain ⟨l,hl,hp⟩:=ih qo
   obtain ⟨x,hx⟩:=hP _ (hc m qo)
   refine ⟨l++[x],by simp [hl],λi hi=>?_⟩
   rcases Nat.lt_or_ge i l.length with h1|h1
   ·rw [List.getElem_append_left h1];exact hp i h1
   ·have hi':i=l.length:=by simp at hi;omega
    subst hi'
    rw [List.getElem_concat_length rfl,hl];exact hx
 obtain ⟨l,hl,hp⟩:=hch n (Nat.le_refl _)
 subst hl
 have u:=hr
 obtain ⟨_,A,c,rfl,_⟩:=hr
 exact ⟨_,l,rfl,A,c,xs,rfl,RS.mk_ u,hp⟩
end
section
variable {H:Type} {enc:TypeId×Value->H} {W:World}
theorem Can.ints {cs:List Value} (h:Can enc W 24 cs):∃ (v:Value) (l:List Int),cs=[v]/\Zqi W v l:=by
 obtain ⟨v,l,rfl,hr,_⟩:=h.intRow Tryz.underlying24 Tryz.underlying3 T.cellInt
 have u:=hr
 obtain ⟨_,A,c,rfl,_⟩:=hr
 exact ⟨_,l,rfl,A,c,rfl,RS.mk_ u⟩
theorem Can.str {cs:List Value} (h:Can enc W 9 cs):∃ l:List UInt8,cs=[str l]/\l.length<=maxLen:=by
 obtain ⟨s,rfl,hs⟩:=h.string Tryz.underlying9
 exact ⟨s.data.toList,rfl,hs⟩
end
set_option maxRecDepth 512
def Zhq (b:UInt8):Bool:=decide (97<=b.toNat/\b.toNat<=122)
def Zk0 (b:UInt8):Bool:=decide (48<=b.toNat/\b.toNat<=57)
def Zd4 (l:List UInt8) (k:Nat):Bool:=(l.take k).zipIdx.all λx=>Zhq x.1||(Zk0 x.1&&decide (x.2≠0))
def Zai (l:List UInt8):Bool:=Zd4 l l.length&&decide (1<=l.length/\l.length<=8)
theorem Zgm {l:List UInt8} {k:Nat} (h:k<l.length):Zd4 l (k+1)=(Zd4 l k&&(Zhq l[k]||(Zk0 l[k]&&decide (k≠0)))):=by
 unfold Zd4
 rw [List.take_succ_eq_append_getElem h,List.zipIdx_append,List.all_append]
 simp [List.length_take,Nat.min_eq_left (Nat.le_of_lt h)]
theorem Zp2 {l:List UInt8} {k m:Nat} (hkm:k<=m) (hm:m<=l.length) (h:Zd4 l m=true):Zd4 l k=true:=by
 induction m with
 | zero =>
  obtain rfl:k=0:=by omega
  exact h
 | succ m ih =>
  by_cases e:k=m+1
  ·subst e;exact h
  ·rw [Zgm qo] at h
   simp only [Bool.and_eq_true] at h
   exact ih qo qo h.1
theorem Zuv {l:List UInt8} {k:Nat} (hk:k<l.length) (h:(Zhq l[k]||(Zk0 l[k]&&decide (k≠0)))=false):Zai l=false:=by
 cases hi:Zai l
 ·rfl
 ·unfold Zai at hi
  simp only [Bool.and_eq_true] at hi
  have h1:=Zp2 (show k+1<=l.length by omega) (Nat.le_refl _) hi.1
  rw [Zgm hk,h] at h1
  simp at h1
def Za0 (op:Int):Bool:=decide (op=2)||decide (op=8)
def Zay (op:Int) (n:Nat):Bool:=if op=1∨op=2 then decide (n=0) else if op=3 then decide (n=1) else if 4<=op/\op<=7 then decide (n=2) else if op=8 then decide (n<=3) else false
def Zbr (x:Zac):Bool:=(if Za0 x.1 then Zai x.2.1 else decide (x.2.1=[]))&&(if x.1=1 then inB x.2.2.1 0 2559999 else decide (x.2.2.1=0))&&Zay x.1 x.2.2.2.length
def Zd8 (k:Nat) (l:List Int):Bool:=l.all λa=>inB a 0 ((k:Int)-1)
def Zb1 (k:Nat) (x:Zac):Bool:=Zbr x&&Zd8 k x.2.2.2
def Zby (n:Nat) (x:Zab):Bool:=Zai x.1&&inB x.2 0 ((n:Int)-1)
def Zce (p:Zag):List (List Nat):=p.1.map λx=>x.2.2.2.map Int.toNat
def Zdx (p:Zag):List Nat:=p.2.map λx=>x.2.toNat
def Zhh (p:Zag):List Nat:=(Zce p).flatten++Zdx p
def Za5 (p:Zag) (k:Nat):Bool:=(p.1.take k).zipIdx.all λx=>Zb1 x.2 x.1
def Zbp (p:Zag) (k:Nat):Bool:=(p.2.take k).all (Zby p.1.length)
def Zas (p:Zag):Bool:=decide (p.1.length<=60)&&Za5 p p.1.length&&Zbp p p.2.length&&(List.range p.1.length).all λx=>(Zhh p).count x==1
theorem Zeu {p:Zag} {k:Nat} (h:k<p.1.length):Za5 p (k+1)=(Za5 p k&&Zb1 k p.1[k]):=by
 unfold Za5
 rw [List.take_succ_eq_append_getElem h,List.zipIdx_append,List.all_append]
 simp [List.length_take,Nat.min_eq_left (Nat.le_of_lt h)]
theorem Zhd {p:Zag} {k:Nat} (h:k<p.2.length):Zbp p (k+1)=(Zbp p k&&Zby p.1.length p.2[k]):=by
 unfold Zbp
 rw [List.take_succ_eq_append_getElem h,List.all_append];simp
theorem Zct {p:Zag} {k:Nat} (h:Za5 p p.1.length=true) (hk:k<p.1.length):Zb1 k p.1[k]=true:=by
 unfold Za5 at h
 rw [List.take_length,List.all_eq_true] at h
 exact h (p.1[k],k) (List.mk_mem_zipIdx_iff_getElem?.2 (List.getElem?_eq_getElem hk))
theorem Ze5 {p:Zag} {k:Nat} (h:Zbp p p.2.length=true) (hk:k<p.2.length):Zby p.1.length p.2[k]=true:=by
 unfold Zbp at h
 rw [List.take_length,List.all_eq_true] at h
 exact h _ (List.getElem_mem hk)
theorem Zrq {p:Zag} (h:Za5 p p.1.length=true) {i:Nat} (hi:i<p.1.length):∀ a,a∈(Zce p).getD i []->a<i:=by
 intro a ha
 rw [Zcm (by unfold Zce;simpa using hi)] at ha
 simp only [Zce,List.getElem_map,List.mem_map] at ha
 obtain ⟨z,hz,rfl⟩:=ha
 have h1:=Zct h hi
 unfold Zb1 Zd8 at h1
 simp only [Bool.and_eq_true,List.all_eq_true] at h1
 have:=Za6 (h1.2 z hz)
 omega
theorem Zqu {p:Zag} (h:Zas p=true):Tree (Zce p) (Zdx p):=by
 unfold Zas at h
 simp only [Bool.and_eq_true,List.all_eq_true,List.mem_range,beq_iff_eq] at h
 obtain ⟨⟨⟨_,h1⟩,h2⟩,h3⟩:=h
 have hl:(Zce p).length=p.1.length:=by simp [Zce]
 refine Tree.of_count (λi hi a ha=>Zrq h1 qo a ha) (λk hk=>?_) (λx hx=>h3 x qo)
 have hk':k<p.2.length:=by unfold Zdx at hk;simpa using hk
 have h4:=Ze5 h2 hk'
 unfold Zby at h4
 simp only [Bool.and_eq_true] at h4
 have:=Za6 h4.2
 rw [Zcm hk,hl]
 simp only [Zdx,List.getElem_map]
 omega
end
section
open Go.Lib
def Zey (r k:Nat):Bool:=decide ((r*10 ^ k+255) / 256<10 ^ k)&&decide ((r*10 ^ k+255) / 256*256 / 10 ^ k=r)
theorem fracOk_3 {r:Nat} (h:r<256):Zey r 3=true:=by
 unfold Zey
 simp only [Bool.and_eq_true,decide_eq_true_eq]
 omega
def fracLen (r:Nat):Nat:=if Zey r 1 then 1 else if Zey r 2 then 2 else 3
theorem Ziz {r:Nat} (h:r<256):Zey r (fracLen r)=true:=by
 unfold fracLen
 split
 ·assumption
 ·split
  ·assumption
  ·exact fracOk_3 h
theorem Zel (r:Nat):1<=fracLen r/\fracLen r<=3:=by
 unfold fracLen;split
 ·omega
 ·split<;>omega
theorem Zn3 {r k:Nat} (h1:1<=k) (h2:k<fracLen r):Zey r k=false:=by
 unfold fracLen at h2
 split at h2
 ·omega
 ·next h =>
  split at h2
  ·obtain rfl:k=1:=by omega
   simpa using h
  ·next h' =>
   rcases (show k=1∨k=2 by omega) with rfl|rfl
   ·simpa using h
   ·simpa using h'
def Zd5 (r:Nat):Nat:=(r*10 ^ fracLen r+255) / 256
theorem Zuw {r:Nat} (h:r<256):Zd5 r<10 ^ fracLen r:=by
 have:=Ziz h
 unfold Zey at this
 simp only [Bool.and_eq_true,decide_eq_true_eq] at this
 exact this.1
theorem Za7:∀ (k u:Nat),1<=k->u<10 ^ k->(decDigits u).length<=k
 | 0,_,h,_=>by omega
 | k+1,u,_,h=>by
  rw [decDigits]
  split
  ·simp
  ·next h10 =>
   rcases Nat.eq_zero_or_pos k with rfl|hk
   ·simp at h;omega
   ·rw [List.length_append]
    have:=Za7 k (u / 10) hk (by rw [Nat.pow_succ] at h;omega)
    simp;omega
def Zg7 (r:Nat):List UInt8:=List.replicate (fracLen r-(decDigits (Zd5 r)).length) 48++decDigits (Zd5 r)
theorem Zku {r:Nat} (h:r<256):(Zg7 r).length=fracLen r:=by
 have h1:=Za7 (fracLen r) (Zd5 r) (Zel r).1 (Zuw h)
 unfold Zg7
 rw [List.length_append,List.length_replicate]
 omega
def numF (n:Int):List UInt8:=if 0<=n/\n<=2559999 then (if n % 256=0 then decDigits (n / 256).toNat else decDigits (n / 256).toNat++46::Zg7 (n % 256).toNat) else []
end
section
open Go.RowKit Go.Lib
def opB (op:Int):UInt8:=if op=4 then 43 else if op=5 then 45 else if op=6 then 42 else 47
def Zcl (x:Zac) (ts:List (List UInt8)):List UInt8 :=
 if x.1=1 then numF x.2.2.1 else if x.1=2 then x.2.1 else if x.1=3 then [40,45]++ts.getD 0 []++[41]
 else if x.1=8 then x.2.1++[40]++join ts [44,32]++[41]
 else [40]++ts.getD 0 []++[32]++[opB x.1]++[32]++ts.getD 1 []++[41]
def Zty (p:Zag):Nat->Nat->List UInt8
 | 0,_=>[]
 | f+1,k=>match p.1[k]? with
  | none=>[]
  | some x=>Zcl x (x.2.2.2.map λ(a:Int)=>Zty p f a.toNat)
def textP (p:Zag) (k:Nat):List UInt8:=Zty p (k+1) k
theorem Zgj {p:Zag} (h:Za5 p p.1.length=true) {k:Nat} (hk:k<p.1.length):∀ a∈p.1[k].2.2.2,0<=a/\a<k:=by
 intro a ha
 have h1:=Zct h hk
 unfold Zb1 Zd8 at h1
 simp only [Bool.and_eq_true,List.all_eq_true] at h1
 have:=Za6 (h1.2 a ha)
 omega
theorem Ztx {p:Zag} (h:Za5 p p.1.length=true):∀ f k,k<f->Zty p f k=textP p k:=by
 intro f
 induction f using Nat.strongRecOn with
 | ind f ih =>
  intro k hkf
  unfold textP
  obtain ⟨g,rfl⟩:∃ g,f=g+1:=⟨f-1,qo⟩
  show (match p.1[k]? with|none=>[]|some x=>Zcl x (x.2.2.2.map λ(a:Int)=>Zty p g a.toNat))=(match p.1[k]? with|none=>[]|some x=>Zcl x (x.2.2.2.map λ(a:Int)=>Zty p k a.toNat))
  rcases Nat.lt_or_ge k p.1.length with hk|hk
  ·rw [List.getElem?_eq_getElem hk]
   show Zcl p.1[k] _=Zcl p.1[k] _
   congr 1
   apply List.map_congr_left
   intro a ha
   have:=Zgj h hk a ha
   rw [ih g qo _ qo]
   by_cases e:k=g+1
   ·omega
   ·rw [ih k qo _ qo]
  ·rw [List.getElem?_eq_none hk]
theorem Zni {p:Zag} (h:Za5 p p.1.length=true) {k:Nat} (hk:k<p.1.length):textP p k=Zcl p.1[k] (p.1[k].2.2.2.map λ(a:Int)=>textP p a.toNat):=by
 show (match p.1[k]? with|none=>[]|some x=>Zcl x (x.2.2.2.map λ(a:Int)=>Zty p k a.toNat))=_
 rw [List.getElem?_eq_getElem hk]
 show Zcl p.1[k] _=Zcl p.1[k] _
 congr 1
 apply List.map_congr_left
 intro a ha
 have:=Zgj h hk a ha
 exact Ztx h _ _ qo
def Zt5 (G:List (List Nat)):Nat->Nat->Nat
 | 0,_=>0
 | f+1,k=>14+((G.getD k []).map (Zt5 G f)).sum
def Ziu (G:List (List Nat)) (k:Nat):Nat:=Zt5 G (k+1) k
theorem Zic {l:List Nat} {f g:Nat->Nat} (h:∀ a∈l,f a=g a):(l.map f).sum=(l.map g).sum:=by rw [List.map_congr_left h]
theorem Zt4 {G:List (List Nat)} (hG:∀ k a,a∈G.getD k []->a<k):∀ f k,k<f->Zt5 G f k=Ziu G k:=by
 intro f
 induction f using Nat.strongRecOn with
 | ind f ih =>
  intro k hkf
  unfold Ziu
  obtain ⟨g,rfl⟩:∃ g,f=g+1:=⟨f-1,qo⟩
  show 14+((G.getD k []).map (Zt5 G g)).sum=14+((G.getD k []).map (Zt5 G k)).sum
  congr 1
  apply Zic
  intro a ha
  have:=hG k a ha
  rw [ih g qo _ qo]
  by_cases e:k=g+1
  ·omega
  ·rw [ih k qo _ qo]
theorem Znm {G:List (List Nat)} (hG:∀ k a,a∈G.getD k []->a<k) (k:Nat):Ziu G k=14+((G.getD k []).map (Ziu G)).sum:=by
 show 14+((G.getD k []).map (Zt5 G k)).sum=_
 congr 1
 apply Zic
 intro a ha
 exact Zt4 hG _ _ (by have:=hG k a ha;omega)
theorem Zmv {l:List Nat} {f:Nat->Nat} {a:Nat} (h:a∈l):f a<=(l.map f).sum:=by
 induction l with
 | nil=>cases h
 | cons b t ih =>
  rw [List.map_cons,List.sum_cons]
  rcases List.mem_cons.1 h with rfl|h
  ·omega
  ·have:=ih h;omega
theorem flat_sum (f:Nat->Nat):∀ G:List (List Nat),(G.flatten.map f).sum=(G.map λl=>(l.map f).sum).sum:=by
 intro G
 induction G with
 | nil=>rfl
 | cons a t ih=>rw [List.flatten_cons,List.map_append,List.sum_append,ih,List.map_cons,List.sum_cons]
theorem Zlu (G:List (List Nat)) (f:List Nat->Nat):((List.range G.length).map λi=>f (G.getD i [])).sum=(G.map f).sum:=by
 have:(List.range G.length).map (λi=>f (G.getD i []))=G.map f:=by
  apply List.ext_getElem
  ·simp
  ·intro i h1 h2
   have hi:i<G.length:=by simpa using h2
   rw [List.getElem_map,List.getElem_map,List.getElem_range,Zcm hi]
 rw [this]
theorem Zxp (n:Nat) (g:Nat->Nat):((List.range n).map λi=>14+g i).sum=14*n+((List.range n).map g).sum:=by
 induction n with
 | zero=>rfl
 | succ n ih =>
  rw [List.range_succ,List.map_append,List.map_append,List.sum_append,List.sum_append,ih]
  simp;omega
theorem sum_perm {l m:List Nat} (h:l.Perm m):l.sum=m.sum:=by
 induction h with
 | nil=>rfl
 | cons x _ ih=>rw [List.sum_cons,List.sum_cons,ih]
 | swap x y l=>simp only [List.sum_cons];omega
 | trans _ _ h1 h2=>exact h1.trans h2
theorem Zwk {G:List (List Nat)} {R:List Nat} (hG:∀ k a,a∈G.getD k []->a<k) (hp:(G.flatten++R).Perm (List.range G.length)):(R.map (Ziu G)).sum=14*G.length:=by
 have h1:=sum_perm (hp.map (Ziu G))
 rw [List.map_append,List.sum_append,flat_sum] at h1
 have h2:((List.range G.length).map (Ziu G)).sum=14*G.length+((List.range G.length).map λi=>((G.getD i []).map (Ziu G)).sum).sum:=by
  rw [<- Zxp]
  congr 1
  apply List.map_congr_left
  intro i _
  exact Znm hG i
 rw [Zlu G (λl=>(l.map (Ziu G)).sum)] at h2
 omega
theorem Zht (x:Nat):∀ n,(List.range n).count x=if x<n then 1 else 0
 | 0=>by simp
 | n+1=>by
  rw [List.range_succ,List.count_append,Zht x n,List.count_cons,List.count_nil]
  by_cases h:x=n
  ·subst h;simp
  ·have:¬ n=x:=λe=>h e.symm
   simp only [beq_iff_eq,this,if_false]
   by_cases h2:x<n
   ·rw [if_pos h2,if_pos qo]
   ·rw [if_neg h2,if_neg qo]
theorem Zns {l:List Nat} {n:Nat} (h:∀ x,x<n->l.count x=1) (hl:∀ x∈l,x<n):l.Perm (List.range n):=by
 rw [List.perm_iff_count]
 intro x
 by_cases hx:x<n
 ·rw [h x hx,Zht,if_pos hx]
 ·rw [List.count_eq_zero.2 (λhm=>hx (hl x hm)),List.count_eq_zero.2 (λhm=>hx (List.mem_range.1 hm))]
section
variable {p:Zag}
theorem Zdi (h:Zas p=true):p.1.length<=60:=by
 unfold Zas at h
 simp only [Bool.and_eq_true,decide_eq_true_eq] at h
 exact h.1.1.1
theorem Zbj (h:Zas p=true):Za5 p p.1.length=true:=by
 unfold Zas at h
 simp only [Bool.and_eq_true] at h
 exact h.1.1.2
theorem Znb (h:Zas p=true):Zbp p p.2.length=true:=by
 unfold Zas at h
 simp only [Bool.and_eq_true] at h
 exact h.1.2
theorem Zb6:(Zce p).length=p.1.length:=by simp [Zce]
theorem Zir (h:Za5 p p.1.length=true):∀ k a,a∈(Zce p).getD k []->a<k:=by
 intro k a ha
 rcases Nat.lt_or_ge k p.1.length with hk|hk
 ·exact Zrq h hk a ha
 ·rw [List.getD_eq_getElem?_getD,List.getElem?_eq_none (by rw [Zb6];exact hk)] at ha
  cases ha
theorem Zgt (h:Zas p=true) {k:Nat} (hk:k<p.2.length):Zai p.2[k].1=true/\0<=p.2[k].2/\p.2[k].2<p.1.length:=by
 have h4:=Ze5 (Znb h) hk
 unfold Zby at h4
 simp only [Bool.and_eq_true] at h4
 have:=Za6 h4.2
 exact ⟨h4.1,qo,qo⟩
theorem Zmd (h:Zas p=true):((Zce p).flatten++Zdx p).Perm (List.range (Zce p).length):=by
 rw [Zb6]
 have h0:=h
 unfold Zas at h
 simp only [Bool.and_eq_true,List.all_eq_true,List.mem_range,beq_iff_eq] at h
 refine Zns (λx hx=>h.2 x hx) (λx hx=>?_)
 rcases List.mem_append.1 hx with hx|hx
 ·obtain ⟨l,hl,hxl⟩:=List.mem_flatten.1 hx
  obtain ⟨i,hi,rfl⟩:=List.getElem_of_mem hl
  have:=Zrq (Zbj h0) (i:=i) (by rw [Zb6] at hi;exact hi) x (by rw [Zcm hi];exact hxl)
  rw [Zb6] at hi
  omega
 ·obtain ⟨i,hi,rfl⟩:=List.getElem_of_mem hx
  have hi':i<p.2.length:=by unfold Zdx at hi;simpa using hi
  have:=Zgt h0 hi'
  simp only [Zdx,List.getElem_map]
  omega
theorem size_le (h:Zas p=true):∀ d k,k+d=p.1.length->k<p.1.length->Ziu (Zce p) k<=840:=by
 have hp:=Zmd h
 have hd:=Zir (Zbj h)
 have hr:=Zwk hd hp
 rw [Zb6] at hr
 have hl:=Zdi h
 intro d
 induction d using Nat.strongRecOn with
 | ind d ih =>
  intro k hkd hk
  have hm:k∈(Zce p).flatten++Zdx p:=hp.mem_iff.2 (List.mem_range.2 (by rw [Zb6];exact hk))
  rcases List.mem_append.1 hm with hm|hm
  ·obtain ⟨l,hl2,hxl⟩:=List.mem_flatten.1 hm
   obtain ⟨i,hi,rfl⟩:=List.getElem_of_mem hl2
   have hxl':k∈(Zce p).getD i []:=by rw [Zcm hi];exact hxl
   have hlt:=hd i k hxl'
   rw [Zb6] at hi
   have h1:=ih (d-(i-k)) qo i qo hi
   rw [Znm hd i] at h1
   have:=Zmv (f:=Ziu (Zce p)) hxl'
   omega
  ·have:=Zmv (f:=Ziu (Zce p)) hm
   omega
theorem Zp1 {l:List UInt8} (h:Zai l=true):1<=l.length/\l.length<=8:=by
 unfold Zai at h
 simp only [Bool.and_eq_true,decide_eq_true_eq] at h
 exact h.2
theorem Zpo (h:Zas p=true) {k:Nat} (hk:k<p.1.length):p.1[k].2.1.length<=8:=by
 have h1:=Zct (Zbj h) hk
 unfold Zb1 Zbr at h1
 simp only [Bool.and_eq_true] at h1
 have h2:=h1.1.1.1
 split at h2
 ·exact (Zp1 h2).2
 ·rw [of_decide_eq_true h2];simp
theorem Zmt (h:Zas p=true) {k:Nat} (hk:k<p.1.length):Zay p.1[k].1 p.1[k].2.2.2.length=true:=by
 have h1:=Zct (Zbj h) hk
 unfold Zb1 Zbr at h1
 simp only [Bool.and_eq_true] at h1
 exact h1.1.2
theorem numF_len (n:Int):(numF n).length<=14:=by
 unfold numF
 split
 ·next h =>
  have h1:(decDigits (n / 256).toNat).length<=4:=Za7 4 _ qo qo
  split
  ·omega
  ·have h2:=Zku (r:=(n % 256).toNat) qo
   have h3:=Zel (n % 256).toNat
   rw [List.length_append,List.length_cons,h2]
   omega
 ·simp
theorem Zxf (ts:List (List UInt8)):(join ts [44,32]).length<=(ts.map List.length).sum+2*(ts.length-1):=by
 cases ts with
 | nil=>simp [join_nil]
 | cons a t =>
  rw [join_cons,List.length_append,List.map_cons,List.sum_cons,List.length_cons]
  have:∀ r:List (List UInt8),(joinTail [44,32] r).length=(r.map List.length).sum+2*r.length:=by
   intro r
   induction r with
   | nil=>simp [joinTail]
   | cons b s ih =>
    have e:joinTail [44,32] (b::s)=[44,32]++b++joinTail [44,32] s:=by simp [joinTail]
    rw [e,List.length_append,List.length_append,ih,List.map_cons,List.sum_cons,List.length_cons]
    simp only [List.length_cons,List.length_nil]
    omega
  rw [this]
  omega
theorem Zhr:∀ (ts:List (List UInt8)) (i:Nat),(ts.getD i []).length<=(ts.map List.length).sum
 | [],i=>by simp
 | a::t,0=>by simp
 | a::t,i+1=>by
  have:=Zhr t i
  rw [List.map_cons,List.sum_cons,List.getD_cons_succ]
  omega
theorem Zp4 (ts:List (List UInt8)):(ts.getD 0 []).length+(ts.getD 1 []).length<=(ts.map List.length).sum:=by
 cases ts with
 | nil=>simp
 | cons a t =>
  have:=Zhr t 0
  simp only [List.getD_cons_zero,List.getD_cons_succ,List.map_cons,List.sum_cons]
  omega
theorem Zxa {x:Zac} {ts:List (List UInt8)} (h1:x.2.1.length<=8) (h2:Zay x.1 ts.length=true):(Zcl x ts).length<=14+(ts.map List.length).sum:=by
 unfold Zcl
 split
 ·have:=numF_len x.2.2.1;omega
 ·split
  ·omega
  ·split
   ·have:=Zhr ts 0
    simp only [List.length_append,List.length_cons,List.length_nil];omega
   ·split
    ·next h8 =>
     have h3:ts.length<=3:=by
      unfold Zay at h2
      rw [h8] at h2
      simpa using h2
     have:=Zxf ts
     simp only [List.length_append,List.length_cons,List.length_nil];omega
    ·have:=Zp4 ts
     simp only [List.length_append,List.length_cons,List.length_nil];omega
theorem Zt1 {l:List Int} {f g:Int->Nat} (h:∀ a∈l,f a<=g a):(l.map f).sum<=(l.map g).sum:=by
 induction l with
 | nil=>simp
 | cons a t ih =>
  rw [List.map_cons,List.map_cons,List.sum_cons,List.sum_cons]
  have h1:=h a qs
  have h2:=ih (λb hb=>h b (by simp [hb]))
  omega
theorem Ztw (h:Zas p=true):∀ k,k<p.1.length->(textP p k).length<=Ziu (Zce p) k:=by
 have hn:=Zbj h
 intro k
 induction k using Nat.strongRecOn with
 | ind k ih =>
  intro hk
  rw [Zni hn hk,Znm (Zir hn)]
  refine Nat.le_trans (Zxa (Zpo h hk) (by rw [List.length_map];exact Zmt h hk)) ?_
  have e:(Zce p).getD k []=p.1[k].2.2.2.map Int.toNat:=by
   rw [Zcm (by rw [Zb6];exact hk)];simp [Zce]
  rw [e,List.map_map,List.map_map]
  refine Nat.add_le_add_left (Zt1 λa ha=>?_) _
  have:=Zgj hn hk a ha
  exact ih a.toNat qo qo
theorem Zow (h:Zas p=true) {k:Nat} (hk:k<p.1.length):(textP p k).length<=840 :=
 Nat.le_trans (Ztw h k hk) (size_le h (p.1.length-k) k qo hk)
theorem Zda (h:Zas p=true):p.2.length<=60:=by
 have h1:=(Zmd h).length_eq
 rw [List.length_append,List.length_range,Zb6] at h1
 have h2:(Zdx p).length=p.2.length:=by simp [Zdx]
 have:=Zdi h
 omega
end
def assT (p:Zag) (x:Zab):List UInt8:=x.1++[32,61,32]++textP p x.2.toNat++[59,10]
def progTo (p:Zag) (k:Nat):List UInt8:=((p.2.take k).map (assT p)).flatten
def Zf9 (p:Zag):List UInt8:=progTo p p.2.length
theorem Zkl {p:Zag} {k:Nat} (h:k<p.2.length):progTo p (k+1)=progTo p k++assT p p.2[k]:=by
 unfold progTo
 rw [List.take_succ_eq_append_getElem h,List.map_append,List.flatten_append]
 simp
theorem Zte {p:Zag} (h:Zas p=true) {k:Nat} (hk:k<p.2.length):(assT p p.2[k]).length<=853:=by
 obtain ⟨h1,h2,h3⟩:=Zgt h hk
 have:=(Zp1 h1).2
 have:=Zow h (k:=p.2[k].2.toNat) qo
 unfold assT
 simp only [List.length_append,List.length_cons,List.length_nil]
 omega
theorem Ziw {p:Zag} (h:Zas p=true):∀ k,k<=p.2.length->(progTo p k).length<=853*k
 | 0,_=>by simp [progTo]
 | k+1,hk=>by
  rw [Zkl qo,List.length_append]
  have:=Ziw h k qo
  have:=Zte h (k:=k) qo
  omega
theorem Zpf {p:Zag} (h:Zas p=true):(Zf9 p).length<=51180:=by
 have:=Ziw h p.2.length (Nat.le_refl _)
 have:=Zda h
 unfold Zf9
 omega
end
section
open Go.RowKit
def Zg6 (l:List UInt8):Bool:=decide (l=[117]∨l=[118]∨l=[120]∨l=[121]∨l=[122]∨l=[116])
def Zem:List UInt8:=[99,111,108,111,114]
def arityF (l:List UInt8):Int :=
 if l=[97,98,115]∨l=[102,108,111,111,114]∨l=[100,117]∨l=[100,118] then 1
 else if l=[109,105,110]∨l=[109,97,120]∨l=[115,116,101,112]∨l=[110,111,105,115,101]∨l=[116,101,120] then 2
 else if l=[99,108,97,109,112]∨l=[109,105,120] then 3 else -1
def Zp3 (p:Zag) (name:List UInt8) (before:Int) (k:Nat):Bool:=(p.2.take k).zipIdx.any λx=>decide ((x.2:Int)<before)&&decide (x.1.1=name)
def has (p:Zag) (name:List UInt8) (before:Int):Bool:=Zp3 p name before p.2.length
theorem Zmz {p:Zag} {name:List UInt8} {before:Int} {k:Nat} (h:k<p.2.length):Zp3 p name before (k+1)=(Zp3 p name before k||(decide ((k:Int)<before)&&decide (p.2[k].1=name))):=by
 unfold Zp3
 rw [List.take_succ_eq_append_getElem h,List.zipIdx_append,List.any_append]
 simp [List.length_take,Nat.min_eq_left (Nat.le_of_lt h)]
theorem Zxh {p:Zag} {name:List UInt8} {before:Int} {k:Nat} (hk:k<=p.2.length):Zp3 p name before k=true↔∃ (j:Nat) (h:j<p.2.length),j<k/\(j:Int)<before/\p.2[j].1=name:=by
 induction k with
 | zero=>simp [Zp3]
 | succ k ih =>
  rw [Zmz qo,Bool.or_eq_true,ih qo]
  simp only [Bool.and_eq_true,decide_eq_true_eq]
  constructor
  ·rintro (⟨j,h,h1,h2,h3⟩|⟨h2,h3⟩)
   ·exact ⟨j,h,qo,h2,h3⟩
   ·exact ⟨k,qo,qo,h2,h3⟩
  ·rintro ⟨j,h,h1,h2,h3⟩
   by_cases e:j=k
   ·subst e;exact .inr ⟨h2,h3⟩
   ·exact .inl ⟨j,h,qo,h2,h3⟩
def lastTo (p:Zag) (name:List UInt8) (before:Int):Nat->Int
 | 0 => -1
 | k+1=>if (k:Int)<before/\((p.2[k]?).map (·.1))=some name then k else lastTo p name before k
theorem Zkr {p:Zag} {name:List UInt8} {before:Int} {k:Nat} (h:k<p.2.length):lastTo p name before (k+1)=if (k:Int)<before/\p.2[k].1=name then (k:Int) else lastTo p name before k:=by
 have e:(((p.2[k]?).map (·.1))=some name)↔p.2[k].1=name:=by rw [List.getElem?_eq_getElem h];simp
 show (if (k:Int)<before/\((p.2[k]?).map (·.1))=some name then (k:Int) else lastTo p name before k)=_
 simp only [e]
theorem Zmy {p:Zag} {name:List UInt8} {before:Int}:∀ {k:Nat},k<=p.2.length->(0<=lastTo p name before k↔Zp3 p name before k=true)
 | 0,_=>by simp [lastTo,Zp3]
 | k+1,hk=>by
  have ih:=Zmy (p:=p) (name:=name) (before:=before) (show k<=p.2.length by omega)
  rw [Zmz qo,Bool.or_eq_true,<- ih,Bool.and_eq_true,decide_eq_true_eq,decide_eq_true_eq]
  rw [Zkr qo]
  split
  ·next h=>exact ⟨λ_=>.inr h,λ_=>by omega⟩
  ·next h=>exact ⟨.inl,λh'=>h'.elim id (λh'=>absurd h' h)⟩
def Zbg (p:Zag) (name:List UInt8):Nat->Option Nat
 | 0=>none
 | k+1=>match Zbg p name k with
  | some j=>some j
  | none=>if (p.2[k]?).map (·.1)=some name then some k else none
theorem Ze1 {p:Zag} {name:List UInt8}:∀ {k:Nat},k<=p.2.length->Zbg p name k=none->∀ i (hi:i<p.2.length),i<k->p.2[i].1≠name
 | 0,_,_,i,_,h=>by omega
 | k+1,hk,h,i,hi,hik=>by
  unfold Zbg at h
  cases hf:Zbg p name k with
  | some j=>rw [hf] at h;cases h
  | none =>
   rw [hf] at h
   simp only at h
   split at h
   ·cases h
   ·next hc =>
    by_cases e:i=k
    ·subst e
     rw [List.getElem?_eq_getElem hi,Option.map_some,Option.some.injEq] at hc
     exact hc
    ·exact Ze1 (show k<=p.2.length by omega) hf i hi qo
theorem Zgn {p:Zag} {name:List UInt8}:∀ {k j:Nat},k<=p.2.length->Zbg p name k=some j->∃ h:j<p.2.length,j<k/\p.2[j].1=name/\∀ i (hi:i<p.2.length),i<j->p.2[i].1≠name
 | 0,j,_,h=>by cases h
 | k+1,j,hk,h=>by
  unfold Zbg at h
  cases hf:Zbg p name k with
  | some i =>
   rw [hf] at h
   cases h
   obtain ⟨h1,h2,h3,h4⟩:=Zgn (show k<=p.2.length by omega) hf
   exact ⟨h1,qo,h3,h4⟩
  | none =>
   rw [hf] at h
   simp only at h
   split at h
   ·next hc =>
    cases h
    rw [List.getElem?_eq_getElem qo,Option.map_some,Option.some.injEq] at hc
    refine ⟨qo,qo,hc,λi hi hij e=>?_⟩
    exact Ze1 (show k<=p.2.length by omega) hf i hi hij e
   ·cases h
theorem Zky {p:Zag} {name:List UInt8} (before:Int):(match Zbg p name p.2.length with|some j=>decide ((j:Int)<before)|none=>false)=has p name before:=by
 unfold has
 rw [Bool.eq_iff_iff,Zxh (Nat.le_refl _)]
 cases hf:Zbg p name p.2.length with
 | some j =>
  obtain ⟨h1,h2,h3,h4⟩:=Zgn (Nat.le_refl _) hf
  simp only [decide_eq_true_eq]
  constructor
  ·exact λh=>⟨j,h1,h2,h,h3⟩
  ·rintro ⟨i,hi,_,hb,e⟩
   by_cases hij:i<j
   ·exact absurd e (h4 i hi hij)
   ·omega
 | none =>
  simp only [Bool.false_eq_true,false_iff]
  rintro ⟨i,hi,hi2,_,e⟩
  exact Ze1 (Nat.le_refl _) hf i hi hi2 e
def Zlv (p:Zag):List Int:=ownS (Zce p) (Zdx p)
theorem ownP_I {p:Zag} (h:Zas p=true):ownI (Zce p) (Zdx p)=Zlv p:=Zw4 (Zqu h)
def Zf5 (p:Zag) (k:Nat) (x:Zac):Bool:=if x.1=2 then Zg6 x.2.1||has p x.2.1 ((Zlv p).getD k 0) else if x.1=8 then decide (0<=arityF x.2.1) else true
def Zeo (x:Zac):Bool:=if x.1=8 then decide (arityF x.2.1=x.2.2.2.length) else true
def Zk4 (p:Zag) (k:Nat) (x:Zab):Bool := !Zg6 x.1 && !has p x.1 k
def Zb3 (p:Zag) (k:Nat):Bool:=(p.1.take k).zipIdx.all λx=>Zf5 p x.2 x.1
def Zb8 (p:Zag) (k:Nat):Bool:=(p.1.take k).all Zeo
def Zfr (p:Zag) (k:Nat):Bool:=(p.2.take k).zipIdx.all λx=>Zk4 p x.2 x.1
def Za3 (p:Zag):Bool:=Zas p&&Zb3 p p.1.length&&Zb8 p p.1.length&&Zfr p p.2.length&&has p Zem p.2.length
theorem Zjd {p:Zag} {k:Nat} (h:k<p.1.length):Zb3 p (k+1)=(Zb3 p k&&Zf5 p k p.1[k]):=by
 unfold Zb3
 rw [List.take_succ_eq_append_getElem h,List.zipIdx_append,List.all_append]
 simp [List.length_take,Nat.min_eq_left (Nat.le_of_lt h)]
theorem Zhe {p:Zag} {k:Nat} (h:k<p.1.length):Zb8 p (k+1)=(Zb8 p k&&Zeo p.1[k]):=by
 unfold Zb8
 rw [List.take_succ_eq_append_getElem h,List.all_append];simp
theorem Zk3 {p:Zag} {k:Nat} (h:k<p.2.length):Zfr p (k+1)=(Zfr p k&&Zk4 p k p.2[k]):=by
 unfold Zfr
 rw [List.take_succ_eq_append_getElem h,List.zipIdx_append,List.all_append]
 simp [List.length_take,Nat.min_eq_left (Nat.le_of_lt h)]
end
end Go.Proofs.YticdknjoapdmeaaGreatDoor
