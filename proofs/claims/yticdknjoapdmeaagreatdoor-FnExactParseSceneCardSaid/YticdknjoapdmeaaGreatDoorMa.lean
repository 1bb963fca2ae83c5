/- Several texts in one: Mem, OwnP, TreeP, Law, Open, TxtP, Pure, TxtI, DRow, ProgP, NumP, TextP, CheckP. -/
import Derived.WalkKit
import Derived.WalkSpells
import Derived.WalkLawsBesides
import Derived.Lib.Hide
import Derived.Test.YticdknjoapdmeaaGreatDoorRows
import Derived.ProofKit
import Derived.OpenShut
import Derived.ShutString
import Derived.Deep.Slices
import Derived.Deep.Fields
import Derived.Lib.ItoaLen
import Derived.Lib.AtoiTie
import Derived.Lib.AtoiBound
import Derived.Deep.RegionHeld3
import Derived.Lib.Join
set_option linter.unusedVariables false
set_option linter.unusedSimpArgs false
namespace Go.Proofs.YticdknjoapdmeaaGreatDoor
set_option maxHeartbeats 400000
open Go.RowKit
theorem ret_int {k:IntKind} {a b:Int} (h:a=b):Ending.returned (.int k a)=.returned (.int k b):=by rw [h]
theorem Zad {a b:Bool} (h:a=b):Ending.returned (.bool a)=.returned (.bool b):=by rw [h]
theorem Zb6 {B:Nat} {a w:World} (h:Below B a w) (n:Nat):Below B a (w.drewN n):=⟨h.os,h.tape,h.output,h.size,h.block⟩
theorem Below.step {B:Nat} {a b c:World} (hb:Below b.heap.size b c) (h:Below B a b) (hs:B<=b.heap.size):Below B a c:=h.trans (hb.mono hs)
theorem lt_up2 {n m:Nat} (h:n<m):n<m+1+1:=by omega
theorem lt_up3 {n m:Nat} (h:n<m):n<m+1+1+1:=by omega
theorem lt_up4 {n m:Nat} (h:n<m):n<m+1+1+1+1:=by omega
theorem lt_add2 (n:Nat):n<n+1+1:=by omega
theorem lt_add3 (n:Nat):n<n+1+1+1:=by omega
theorem lt_add4 (n:Nat):n<n+1+1+1+1:=by omega
attribute [go_sem] lt_up2 lt_up3 lt_up4 lt_add2 lt_add3 lt_add4
theorem Zai {W w':World} {Q:Prop} (hb:Below W.heap.size W w') (b:Nat) (h:b<W.heap.size) (k:(∀ o,w'.cell? ⟨b,o,none⟩=W.cell? ⟨b,o,none⟩)->(∀ o,w'.frozen? ⟨b,o,none⟩=W.frozen? ⟨b,o,none⟩)->b<w'.heap.size->Q):Q :=
 k (λo=>hb.cell (p:=⟨b,o,none⟩) h) (λo=>hb.frozen (p:=⟨b,o,none⟩) h) (Nat.lt_of_lt_of_le h hb.size)
theorem bcell {B:Nat} {W w1:World} (hb:Below B W w1):(∀ b o,b<B->w1.cell? ⟨b,o,none⟩=W.cell? ⟨b,o,none⟩)/\(∀ b o,b<B->w1.frozen? ⟨b,o,none⟩=W.frozen? ⟨b,o,none⟩) :=
 ⟨λb o h=>hb.cell (p:=⟨b,o,none⟩) h,λb o h=>hb.frozen (p:=⟨b,o,none⟩) h⟩
def Rd (w:World) (lo hi size:Nat) (v:Value) (n:Nat) (xs:List Value):Prop :=
 xs.length=n*size/\∃ (A:Option Addr) (c:Nat),v=.slice A n c/\n<=c/\c<=maxLen/\(0<n->∃ b o,A=some ⟨b,o,none⟩/\lo<=b/\b<hi/\∀ j,j<n*size->w.cell? ⟨b,o+j,none⟩=xs[j]?)
theorem Rd.below {w w':World} {lo hi size n:Nat} {v:Value} {xs:List Value} {B:Nat} (h:Rd w lo hi size v n xs) (hb:Below B w w') (hB:hi<=B):Rd w' lo hi size v n xs:=by
 obtain ⟨hl,A,c,hv,hn,hc,h⟩:=h
 refine ⟨hl,A,c,hv,hn,hc,λhp=>?_⟩
 obtain ⟨b,o,hA,h1,h2,h3⟩:=h hp
 exact ⟨b,o,hA,h1,h2,λj hj=>(hb.cell (p:=⟨b,o+j,none⟩) (by show b<B;omega)).trans (h3 j hj)⟩
theorem Rd.drew {w:World} {lo hi size n:Nat} {v:Value} {xs:List Value} (h:Rd w lo hi size v n xs):Rd w.drew lo hi size v n xs:=h
theorem Rd.drewN {w:World} {lo hi size n:Nat} {v:Value} {xs:List Value} (h:Rd w lo hi size v n xs) (k:Nat):Rd (w.drewN k) lo hi size v n xs:=h
theorem Rd.mono {w:World} {lo hi lo' hi' size n:Nat} {v:Value} {xs:List Value} (h:Rd w lo hi size v n xs) (h1:lo'<=lo) (h2:hi<=hi'):Rd w lo' hi' size v n xs:=by
 obtain ⟨hl,A,c,hv,hn,hc,h⟩:=h
 refine ⟨hl,A,c,hv,hn,hc,λhp=>?_⟩
 obtain ⟨b,o,hA,h3,h4,h5⟩:=h hp
 exact ⟨b,o,hA,by omega,by omega,h5⟩
theorem Rd.len {w:World} {lo hi size n:Nat} {v:Value} {xs:List Value} (h:Rd w lo hi size v n xs):n<=maxLen:=by
 obtain ⟨hl,A,c,hv,hn,hc,h⟩:=h
 omega
def Own (w:World) (g:Nat) (t:TypeId) (cs:List Value):Prop:=w.heap[g]? = some (.cells ⟨cs⟩ t (0,0))
theorem Own.lt {w:World} {g:Nat} {t:TypeId} {cs:List Value} (h:Own w g t cs):g<w.heap.size:=by
 rcases Nat.lt_or_ge g w.heap.size with hlt|hge
 ·exact hlt
 ·unfold Own at h;rw [Array.getElem?_eq_none hge] at h;cases h
theorem Own.cell {w:World} {g:Nat} {t:TypeId} {cs:List Value} (h:Own w g t cs) (i:Nat):w.cell? ⟨g,i,none⟩=cs[i]? := by
 unfold Own at h;simp [World.cell?,h]
theorem Own.frozen {w:World} {g:Nat} {t:TypeId} {cs:List Value} (h:Own w g t cs) (i:Nat):w.frozen? ⟨g,i,none⟩=false:=by
 unfold Own at h;simp [World.frozen?,h]
theorem Own.new (w:World) (t:TypeId) (cs:Array Value):Own (w.alloc (.cells cs t)) w.heap.size t cs.toList:=heap_alloc_new w _
theorem Own.at_new {w:World} {g:Nat} {t:TypeId} {cs:Array Value} (hg:g=w.heap.size):Own (w.alloc (.cells cs t)) g t cs.toList:=by subst hg;exact Own.new w t cs
theorem Own.drewN {w:World} {g:Nat} {t:TypeId} {cs:List Value} (h:Own w g t cs) (n:Nat):Own (w.drewN n) g t cs:=h
theorem Own.drew {w:World} {g:Nat} {t:TypeId} {cs:List Value} (h:Own w g t cs):Own w.drew g t cs:=h
theorem Own.alloc {w:World} {g:Nat} {t:TypeId} {cs:List Value} (h:Own w g t cs) (o:Obj):Own (w.alloc o) g t cs:=(Below.heap_alloc w o g h.lt).trans h
theorem Own.set_ {w:World} {g:Nat} {t:TypeId} {cs:List Value} (h:Own w g t cs) (i:Nat) (u:Value):Own (w.setCell ⟨g,i,none⟩ u) g t (cs.set i u):=by
 unfold Own at h ⊢
 simp [World.setCell,Array.getElem?_modify,h]
theorem Own.far {w:World} {g:Nat} {t:TypeId} {cs:List Value} (h:Own w g t cs) {p:Addr} (hp:g≠p.block) (u:Value):Own (w.setCell p u) g t cs:=(Below.heap_setCell w p u g hp).trans h
theorem Own.below {w w':World} {g:Nat} {t:TypeId} {cs:List Value} {B:Nat} (h:Own w g t cs) (hb:Below B w w') (hg:g<B):Own w' g t cs:=(hb.block g hg).trans h
theorem Own.rd {w:World} {g:Nat} {t:TypeId} {cs xs:List Value} {lo hi n size:Nat} (h:Own w g t cs) (hl:xs.length=n*size) (hx:∀ j,j<n*size->cs[j]? = xs[j]?) (h1:lo<=g) (h2:g<hi) (hm:n<=maxLen) :
  Rd w lo hi size (.slice (some ⟨g,0,none⟩) n n) n xs :=
 ⟨hl,_,n,rfl,Nat.le_refl _,hm,λ_=>⟨g,0,rfl,h1,h2,λj hj=>by rw [Nat.zero_add,h.cell,hx j hj]⟩⟩
theorem run_mk {P:Program} (t e:TypeId) (z:Value) (size bytes:Nat) (ht:P.underlying t=some (.slice e)) (hinfo:(P.info? e).map (λi=>(i.zero,i.size,i.bytes))=some (some z,size,bytes))
  (n:Nat) (hb:bytes*n<=281474976710656) (hn:n<=9223372036854775807) (w:World) :
  (Instr.makeSlice t (.int .i64 (n:Int)) (.int .i64 (n:Int))).run P w=.ok (.slice (some ⟨w.heap.size,0,none⟩) n n) (w.alloc (.cells (madeCells z.cells (n*size)) e)):=by
 obtain ⟨i,hi,hz,hs,hby⟩:=info_parts hinfo
 have h:=run_make (P:=P) w t e i z ht hi hz .i64 .i64 n n (by omega) (by omega) (by rw [hby];omega) (by omega)
 simpa [hs] using h
def RS (w:World) (size:Nat) (A:Option Addr) (n c:Nat) (xs:List Value):Prop:=Rd w 0 w.heap.size size (.slice A n c) n xs
theorem RS.mk_ {w:World} {size n c:Nat} {A:Option Addr} {xs:List Value} (h:Rd w 0 w.heap.size size (.slice A n c) n xs):RS w size A n c xs:=h
theorem RS.step {size n c:Nat} {A:Option Addr} {xs:List Value} {w w':World} (hb:Below w.heap.size w w') (h:RS w size A n c xs):RS w' size A n c xs:=(Rd.below h hb (Nat.le_refl _)).mono (Nat.le_refl _) hb.size
theorem RS.alloc {size n c:Nat} {A:Option Addr} {xs:List Value} {w:World} (h:RS w size A n c xs) (o:Obj):RS (w.alloc o) size A n c xs:=h.step ((Below.refl _ _).alloc (Nat.le_refl _) o)
theorem RS.drew {size n c:Nat} {A:Option Addr} {xs:List Value} {w:World} (h:RS w size A n c xs):RS w.drew size A n c xs:=h
theorem RS.drewN {size n c:Nat} {A:Option Addr} {xs:List Value} {w:World} (h:RS w size A n c xs) (k:Nat):RS (w.drewN k) size A n c xs:=h
theorem RS.setCell {size n c:Nat} {A:Option Addr} {xs:List Value} {w:World} (h:RS w size A n c xs) {p:Addr} (hp:∀ ad,A=some ad->ad.block≠p.block) (u:Value):RS (w.setCell p u) size A n c xs:=by
 obtain ⟨hl,A',c',hs,h1,h2,hr⟩:=h
 refine ⟨hl,A',c',hs,h1,h2,λhn=>?_⟩
 injection hs with e1 _ e2
 subst e1
 obtain ⟨b,o,h3,h4,h5,h6⟩:=hr hn
 refine ⟨b,o,h3,h4,by simpa [World.setCell] using h5,λj hj=>?_⟩
 rw [<- h6 j hj]
 exact World.cell?_setCell_other w p _ u (λe=>hp _ h3 (by rw [e]))
theorem RS.len {size n c:Nat} {A:Option Addr} {xs:List Value} {w:World} (h:RS w size A n c xs):n<=maxLen:=Rd.len h
theorem RS.xlen {size n c:Nat} {A:Option Addr} {xs:List Value} {w:World} (h:RS w size A n c xs):xs.length=n*size:=h.1
theorem RS.open_ {size n c:Nat} {A:Option Addr} {xs:List Value} {w:World} (h:RS w size A n c xs):n<=c/\c<=maxLen/\(0<n->∃ b o,A=some ⟨b,o,none⟩/\b<w.heap.size/\∀ j,j<n*size->w.cell? ⟨b,o+j,none⟩=xs[j]?):=by
 obtain ⟨_,A',c',hs,h1,h2,hr⟩:=h
 injection hs with e1 _ e2
 subst e1;subst e2
 refine ⟨h1,h2,λhp=>?_⟩
 obtain ⟨b,o,h3,_,h5,h6⟩:=hr hp
 exact ⟨b,o,h3,h5,h6⟩
abbrev sl (g n:Nat):Value:=.slice (some ⟨g,0,none⟩) n n
theorem Own.rs {w:World} {g:Nat} {t:TypeId} {xs:List Value} {n size:Nat} (h:Own w g t xs) (hl:xs.length=n*size) (hm:n<=1048576) :
  RS w size (some ⟨g,0,none⟩) n n xs:=h.rd hl (λ_ _=>rfl) (Nat.zero_le _) h.lt (by unfold maxLen;omega)
theorem Own.step {w w':World} {g:Nat} {t:TypeId} {cs:List Value} (hb:Below w.heap.size w w') (h:Own w g t cs):Own w' g t cs:=h.below hb h.lt
abbrev ints (l:List Int):List Value:=l.map (Value.int .i64)
abbrev bools (l:List Bool):List Value:=l.map Value.bool
theorem omm {p:Prop} (h:p:=by first|omega|(simp<;>omega)):p:=h
theorem qh (p:Prop) (h:p):Hid p:=h
theorem qn {p:Prop} (h:p:=by simp [RowKit.intOf]<;>omega):p:=h
theorem qe {α:Type} (x:α):∃ y,y=x:=⟨x,rfl⟩
theorem qv {α:Type} (x:α):∃ y,x=y:=⟨x,rfl⟩
theorem qo {p:Prop} (h:p:=by omega):p:=h
theorem qs {p:Prop} (h:p:=by simp):p:=h
theorem qr {p:Prop} (h:p:=by rfl):p:=h
theorem qd {p:Prop} (h:p:=by decide):p:=h
theorem qg {p:Prop} (h:p:=by go_num):p:=h
theorem kr {p:Prop} (h:p:=by kernel_rfl):p:=h
theorem hdQ {p:Prop} (h:p):Hid p:=h
theorem bll {B:Nat} {w w':World} (h:Below B w w':=by repeat (first|(with_reducible exact Below.refl _ _)|(with_reducible assumption)|(with_reducible exact Hid.out ‹_›)|((with_reducible refine Below.alloc ?_ ?_ _);rotate_left;(first|omega|(simp<;>omega)))|((with_reducible refine Below.setCell ?_ ?_ _);rotate_left;(first|omega|(simp<;>omega)))|(with_reducible refine Zb6 ?_ _)|(with_reducible refine Below.drew ?_)|((with_reducible refine Below.step (by assumption) ?_ ?_);rotate_left;(first|omega|(simp<;>omega))))):Below B w w':=h
theorem bst {B:Nat} {a b c:World} (hb:Below b.heap.size b c) (h:Below B a b:=by repeat (first|(with_reducible exact Below.refl _ _)|(with_reducible assumption)|(with_reducible exact Hid.out ‹_›)|((with_reducible refine Below.alloc ?_ ?_ _);rotate_left;(first|omega|(simp<;>omega)))|((with_reducible refine Below.setCell ?_ ?_ _);rotate_left;(first|omega|(simp<;>omega)))|(with_reducible refine Zb6 ?_ _)|(with_reducible refine Below.drew ?_)|((with_reducible refine Below.step (by assumption) ?_ ?_);rotate_left;(first|omega|(simp<;>omega))))) (hs:B<=b.heap.size:=by first|omega|(simp<;>omega)):Below B a c:=h.trans (hb.mono hs)
theorem bh (a:World) {b c:World} (hb:Below b.heap.size b c) (h:Below a.heap.size a b:=by repeat (first|(with_reducible exact Below.refl _ _)|(with_reducible assumption)|(with_reducible exact Hid.out ‹_›)|((with_reducible refine Below.alloc ?_ ?_ _);rotate_left;(first|omega|(simp<;>omega)))|((with_reducible refine Below.setCell ?_ ?_ _);rotate_left;(first|omega|(simp<;>omega)))|(with_reducible refine Zb6 ?_ _)|(with_reducible refine Below.drew ?_)|((with_reducible refine Below.step (by assumption) ?_ ?_);rotate_left;(first|omega|(simp<;>omega))))) (hs:a.heap.size<=b.heap.size:=by first|omega|(simp<;>omega)):Hid (Below a.heap.size a c):=h.trans (hb.mono hs)
abbrev CB_ (P:Program) (f:FuncId) (args:Array Value) (w:World) (v:Value):Prop:=Calls P f args w λe w'=>e=.returned v/\Below w.heap.size w w'
theorem owx {w w':World} {g:Nat} {t:TypeId} {cs:List Value} (x:Own w g t cs) (h:Own w g t cs->Own w' g t cs:=by intro bx;repeat (first|(with_reducible exact bx)|((with_reducible refine Own.far ?_ ?_ _);rotate_left;(first|omega|(simp<;>omega)))|(with_reducible refine Own.alloc ?_ _)|(with_reducible refine Own.drewN ?_ _)|(with_reducible refine Own.drew ?_)|(with_reducible refine Own.step (by assumption) ?_))):Own w' g t cs:=h x
theorem rsx {w:World} {size n c:Nat} {A:Option Addr} {xs:List Value} (h:RS w size A n c xs:=by first|(with_reducible assumption)|((with_reducible refine RS.step ?_ (by assumption));repeat (first|(with_reducible exact Below.refl _ _)|(with_reducible assumption)|((with_reducible refine Below.alloc ?_ ?_ _);rotate_left;(first|omega|(simp<;>omega)))|((with_reducible refine Below.setCell ?_ ?_ _);rotate_left;(first|omega|(simp<;>omega)))|(with_reducible refine Zb6 ?_ _)|(with_reducible refine Below.drew ?_)|((with_reducible refine Below.step (by assumption) ?_ ?_);rotate_left;(first|omega|(simp<;>omega)))))):RS w size A n c xs:=h
theorem bxx {B:Nat} {w w':World} (hb:Below B w w') (b:Nat) (h:b<B:=by first|omega|(simp<;>omega)) (h':b<w.heap.size:=by first|omega|(simp<;>omega)):(∀ o,w'.cell? ⟨b,o,none⟩=w.cell? ⟨b,o,none⟩)/\(∀ o,w'.frozen? ⟨b,o,none⟩=w.frozen? ⟨b,o,none⟩)/\b<w'.heap.size :=
 ⟨λo=>hb.cell (p:=⟨b,o,none⟩) h,λo=>hb.frozen (p:=⟨b,o,none⟩) h,Nat.lt_of_lt_of_le h' hb.size⟩
end Go.Proofs.YticdknjoapdmeaaGreatDoor
namespace Go.Proofs.YticdknjoapdmeaaGreatDoor
def Zb7 (G:List (List Nat)):Nat->Nat->Int->List Int->List Int
 | 0,_,_,o=>o
 | f+1,x,k,o=>(G.getD x []).foldl (λo a=>Zb7 G f a k o) (o.set x k)
def descF (G:List (List Nat)):Nat->Nat->Nat->Prop
 | 0,_,_=>False
 | f+1,x,y=>y=x∨∃ a,a∈G.getD x []/\descF G f a y
theorem visitF_len (G:List (List Nat)):∀ f x k o,(Zb7 G f x k o).length=o.length
 | 0,_,_,_=>rfl
 | f+1,x,k,o=>by
  have key:∀ (azz:List Nat) (o:List Int),(azz.foldl (λo a=>Zb7 G f a k o) o).length=o.length:=by
   intro azz
   induction azz with
   | nil=>intro o;rfl
   | cons a azz ih=>intro o;rw [List.foldl_cons,ih,visitF_len G f]
  rw [Zb7,key,List.length_set]
theorem visitF_at (G:List (List Nat)):∀ f x k o y,(descF G f x y->y<o.length->(Zb7 G f x k o).getD y 0=k)/\(¬ descF G f x y->(Zb7 G f x k o).getD y 0=o.getD y 0)
 | 0,x,k,o,y=>⟨λh=>h.elim,λ_=>rfl⟩
 | f+1,x,k,o,y=>by
  have key:∀ (azz:List Nat) (o:List Int),((∃ a,a∈azz/\descF G f a y)->y<o.length->(azz.foldl (λo a=>Zb7 G f a k o) o).getD y 0=k)/\((¬ ∃ a,a∈azz/\descF G f a y)->(azz.foldl (λo a=>Zb7 G f a k o) o).getD y 0=o.getD y 0):=by
   intro azz
   induction azz with
   | nil=>intro o;exact ⟨λ⟨a,h,_⟩=>absurd h qs,λ_=>rfl⟩
   | cons a azz ih =>
    intro o
    rw [List.foldl_cons]
    obtain ⟨v1,v2⟩:=visitF_at G f a k o y
    obtain ⟨i1,i2⟩:=ih (Zb7 G f a k o)
    rw [visitF_len] at i1
    constructor
    ·intro hex hy
     by_cases h:∃ a,a∈azz/\descF G f a y
     ·exact i1 h hy
     ·rw [i2 h]
      obtain ⟨b,hb,hd⟩:=hex
      rcases List.mem_cons.1 hb with rfl|hb
      ·exact v1 hd hy
      ·exact absurd ⟨b,hb,hd⟩ h
    ·intro hno
     rw [i2 (λ⟨b,hb,hd⟩=>hno ⟨b,List.mem_cons_of_mem _ hb,hd⟩),v2 (λhd=>hno ⟨a,qs,hd⟩)]
  obtain ⟨k1,k2⟩:=key (G.getD x []) (o.set x k)
  rw [List.length_set] at k1
  constructor
  ·intro hd hy
   rw [Zb7]
   by_cases h:∃ a,a∈G.getD x []/\descF G f a y
   ·exact k1 h hy
   ·rw [k2 h]
    rcases hd with rfl|hd
    ·simp [List.getD,hy]
    ·exact absurd hd h
  ·intro hd
   rw [Zb7,k2 (λh=>hd (.inr h))]
   have hne:x≠y:=λe=>hd (.inl e.symm)
   simp [List.getD,hne]
def Zen (G:List (List Nat)) (n:Nat) (R:List Nat):Nat->List Int
 | 0=>List.replicate n 0
 | k+1=>Zb7 G n (R.getD k 0) k (Zen G n R k)
def ownI (G:List (List Nat)) (R:List Nat):List Int:=Zen G G.length R R.length
theorem ownTo_len (G:List (List Nat)) (n:Nat) (R:List Nat):∀ k,(Zen G n R k).length=n
 | 0=>by simp [Zen]
 | k+1=>by rw [Zen,visitF_len,ownTo_len G n R k]
structure GoodOwn (G:List (List Nat)) (R:List Nat) (o:List Int):Prop where
 len:o.length=G.length
 root:∀ k,k<R.length->o.getD (R.getD k 0) 0=k
 arg:∀ i,i<G.length->∀ a,a∈G.getD i []->o.getD a 0=o.getD i 0
structure Tree (G:List (List Nat)) (R:List Nat):Prop where
 down:∀ i,i<G.length->∀ a,a∈G.getD i []->a<i
 rng:∀ k,k<R.length->R.getD k 0<G.length
 all:∀ x,x<G.length->(∃ k,k<R.length/\R.getD k 0=x)∨∃ i,i<G.length/\x∈G.getD i []
 one:∀ i j a,i<G.length->j<G.length->a∈G.getD i []->a∈G.getD j []->i=j
 roots:∀ k l,k<R.length->l<R.length->R.getD k 0=R.getD l 0->k=l
 apart:∀ k i,k<R.length->i<G.length->¬ R.getD k 0∈G.getD i []
theorem good_unique {G:List (List Nat)} {R:List Nat} (t:Tree G R) {o p:List Int} (ho:GoodOwn G R o) (hp:GoodOwn G R p):o=p:=by
 have key:∀ d x,G.length-x<=d->x<G.length->o.getD x 0=p.getD x 0:=by
  intro d
  induction d with
  | zero=>intro x h1 h2;omega
  | succ d ih =>
   intro x h1 h2
   rcases t.all x h2 with ⟨k,hk,rfl⟩|⟨i,hi,hx⟩
   ·rw [ho.root k hk,hp.root k hk]
   ·have:=t.down i hi x hx
    rw [ho.arg i hi x hx,hp.arg i hi x hx,ih i qo hi]
 apply List.ext_getElem (by rw [ho.len,hp.len])
 intro x h1 h2
 have:=key (G.length-x) x (Nat.le_refl _) (by rw [<- ho.len];exact h1)
 simpa [List.getD,h1,h2] using this
theorem descF_arg {G:List (List Nat)} {R:List Nat} (t:Tree G R):∀ f x y,x<G.length->x<f->descF G f x y->∀ a,a∈G.getD y []->descF G f x a
 | 0,x,y,_,_,h=>h.elim
 | f+1,x,y,hx,hf,h=>by
  intro a ha
  rcases h with rfl|⟨b,hb,hd⟩
  ·refine .inr ⟨a,ha, ?_⟩
   have:=t.down y hx a ha
   match f,(show a<f by omega) with
   | f+1,_=>exact .inl rfl
  ·have h1:=t.down x hx b hb
   exact .inr ⟨b,hb,descF_arg t f b y qo qo hd a ha⟩
theorem descF_up {G:List (List Nat)} {R:List Nat} (t:Tree G R):∀ f x y,x<G.length->descF G f x y->y≠x->∃ i,i<G.length/\y∈G.getD i []/\descF G f x i
 | 0,x,y,_,h,_=>h.elim
 | f+1,x,y,hx,h,hne=>by
  rcases h with rfl|⟨a,ha,hd⟩
  ·exact absurd rfl hne
  ·have h1:=t.down x hx a ha
   by_cases e:y=a
   ·subst e;exact ⟨x,hx,ha,.inl rfl⟩
   ·obtain ⟨i,hi,hy,hdi⟩:=descF_up t f a y qo hd e
    exact ⟨i,hi,hy,.inr ⟨a,ha,hdi⟩⟩
theorem ownI_good {G:List (List Nat)} {R:List Nat} (t:Tree G R):GoodOwn G R (ownI G R):=by
 refine ⟨ownTo_len _ _ _ _, ?_, ?_⟩
 ·
  have key:∀ m,m<=R.length->∀ k,k<m->(Zen G G.length R m).getD (R.getD k 0) 0=k:=by
   intro m
   induction m with
   | zero=>intro _ k hk;omega
   | succ m ih =>
    intro hm k hk
    obtain ⟨v1,v2⟩:=visitF_at G G.length (R.getD m 0) m (Zen G G.length R m) (R.getD k 0)
    rw [ownTo_len] at v1
    rw [Zen]
    by_cases e:k=m
    ·subst e
     refine v1 ?_ (t.rng k qo)
     have:=t.rng k qo
     match h:G.length,this with
     | n+1,_=>exact .inl rfl
    ·rw [v2 ?_]
     ·exact ih qo k qo
     ·intro hd
      have hne:R.getD k 0≠R.getD m 0:=λh=>e (t.roots k m qo qo h)
      obtain ⟨i,hi,hy,_⟩:=descF_up t _ _ _ (t.rng m qo) hd hne
      exact t.apart k i qo hi hy
  exact key R.length (Nat.le_refl _)
 ·intro i hi a ha
  have hai:=t.down i hi a ha
  have key:∀ m,m<=R.length->(Zen G G.length R m).getD a 0=(Zen G G.length R m).getD i 0:=by
   intro m
   induction m with
   | zero=>intro _;simp [Zen,List.getD,hi,show a<G.length by omega]
   | succ m ih =>
    intro hm
    obtain ⟨v1,v2⟩:=visitF_at G G.length (R.getD m 0) m (Zen G G.length R m) a
    obtain ⟨u1,u2⟩:=visitF_at G G.length (R.getD m 0) m (Zen G G.length R m) i
    rw [ownTo_len] at v1 u1
    have hr:=t.rng m qo
    rw [Zen]
    by_cases hd:descF G G.length (R.getD m 0) i
    ·rw [u1 hd hi,v1 (descF_arg t _ _ _ hr hr hd a ha) qo]
    ·rw [u2 hd,v2 ?_,ih qo]
     intro hda
     have hne:a≠R.getD m 0:=λe=>t.apart m i qo hi (e ▸ ha)
     obtain ⟨j,hj,hy,hdj⟩:=descF_up t _ _ _ hr hda hne
     exact hd (t.one i j a hi hj ha hy ▸ hdj)
  exact key R.length (Nat.le_refl _)
def Zc8 (azz:List Nat) (k:Int) (o:List Int):List Int:=azz.foldl (λo a=>o.set a k) o
def Zbb (n:Nat) (R:List Nat):Nat->List Int
 | 0=>List.replicate n 0
 | k+1=>(Zbb n R k).set (R.getD k 0) k
def downTo (G:List (List Nat)) (o:List Int):Nat->List Int
 | 0=>o
 | j+1=>let p:=downTo G o j;let i:=G.length-1-j;Zc8 (G.getD i []) (p.getD i 0) p
def ownS (G:List (List Nat)) (R:List Nat):List Int:=downTo G (Zbb G.length R R.length) G.length
theorem setAll_len (azz:List Nat) (k:Int):∀ o,(Zc8 azz k o).length=o.length:=by
 induction azz with
 | nil=>intro o;rfl
 | cons a azz ih=>intro o;show (Zc8 azz k (o.set a k)).length=_;rw [ih,List.length_set]
theorem setAll_at (azz:List Nat) (k:Int) (y:Nat):∀ o:List Int,(y∈azz->y<o.length->(Zc8 azz k o).getD y 0=k)/\(¬ y∈azz->(Zc8 azz k o).getD y 0=o.getD y 0):=by
 induction azz with
 | nil=>intro o;exact ⟨λh=>absurd h qs,λ_=>rfl⟩
 | cons a azz ih =>
  intro o
  obtain ⟨i1,i2⟩:=ih (o.set a k)
  rw [List.length_set] at i1
  constructor
  ·intro hm hy
   show (Zc8 azz k (o.set a k)).getD y 0=k
   by_cases h:y∈azz
   ·exact i1 h hy
   ·rw [i2 h]
    have e:y=a:=(List.mem_cons.1 hm).elim id (λh'=>absurd h' h)
    subst e;simp [List.getD,hy]
  ·intro hm
   show (Zc8 azz k (o.set a k)).getD y 0=_
   rw [i2 (λh=>hm (List.mem_cons_of_mem _ h))]
   have hne:a≠y:=λe=>hm (e ▸ List.mem_cons_self)
   simp [List.getD,hne]
theorem Zcz (n:Nat) (R:List Nat):∀ k,(Zbb n R k).length=n
 | 0=>by simp [Zbb]
 | k+1=>by rw [Zbb,List.length_set,Zcz n R k]
theorem Zfr (G:List (List Nat)) (o:List Int):∀ j,(downTo G o j).length=o.length
 | 0=>rfl
 | j+1=>by show (Zc8 _ _ _).length=_;rw [setAll_len,Zfr G o j]
theorem ownS_good {G:List (List Nat)} {R:List Nat} (t:Tree G R):GoodOwn G R (ownS G R):=by
 have hr:∀ m,m<=R.length->∀ k,k<m->(Zbb G.length R m).getD (R.getD k 0) 0=k:=by
  intro m
  induction m with
  | zero=>intro _ k hk;omega
  | succ m ih =>
   intro hm k hk
   rw [Zbb]
   by_cases e:k=m
   ·subst e
    have:=t.rng k qo
    simp only [List.getD]
    rw [List.getElem?_set_self (by rw [Zcz];exact this)];rfl
   ·have hne:R.getD m 0≠R.getD k 0:=λh=>e (t.roots k m qo qo h.symm)
    have:=ih qo k qo
    rw [List.getD_eq_getElem?_getD,List.getElem?_set_ne hne,<- List.getD_eq_getElem?_getD];exact this
 have key:∀ j,j<=G.length->(∀ k,k<R.length->(downTo G (Zbb G.length R R.length) j).getD (R.getD k 0) 0=k)/\(∀ i,i<G.length->G.length-j<=i->∀ a,a∈G.getD i []->(downTo G (Zbb G.length R R.length) j).getD a 0=(downTo G (Zbb G.length R R.length) j).getD i 0):=by
  intro j
  induction j with
  | zero=>intro _;exact ⟨hr _ (Nat.le_refl _),λi h1 h2=>by omega⟩
  | succ j ih =>
   intro hj
   obtain ⟨i1,i2⟩:=ih qo
   have hlen:(downTo G (Zbb G.length R R.length) j).length=G.length:=by rw [Zfr,Zcz]
   generalize hp:downTo G (Zbb G.length R R.length) j=p at *
   have he:downTo G (Zbb G.length R R.length) (j+1)=Zc8 (G.getD (G.length-1-j) []) (p.getD (G.length-1-j) 0) p:=by rw [downTo,hp]
   rw [he]
   have hi0:G.length-1-j<G.length:=qo
   generalize hi:G.length-1-j=i0 at *
   constructor
   ·intro k hk
    rw [(setAll_at _ _ _ p).2 (t.apart k i0 hk hi0)];exact i1 k hk
   ·intro i h1 h2 a ha
    have hda:=t.down i h1 a ha
    have hni:¬ i∈G.getD i0 []:=λh=>by have:=t.down i0 hi0 i h;omega
    rw [(setAll_at _ _ i p).2 hni]
    by_cases e:i=i0
    ·subst e
     exact (setAll_at _ _ a p).1 ha qo
    ·have hna:¬ a∈G.getD i0 []:=λh=>e (t.one i i0 a h1 hi0 ha h)
     rw [(setAll_at _ _ a p).2 hna]
     exact i2 i h1 qo a ha
 refine ⟨by show (downTo _ _ _).length=_;rw [Zfr,Zcz],(key G.length (Nat.le_refl _)).1,λi hi a ha=>(key G.length (Nat.le_refl _)).2 i hi qo a ha⟩
theorem owners_eq {G:List (List Nat)} {R:List Nat} (t:Tree G R):ownI G R=ownS G R:=good_unique t (ownI_good t) (ownS_good t)
theorem Zb9 {α:Type} {l:List α} {i:Nat} {d:α} (h:i<l.length):l.getD i d=l[i]:=by simp [List.getD,h]
theorem Tree.of_count {G:List (List Nat)} {R:List Nat} (hd:∀ i,i<G.length->∀ a,a∈G.getD i []->a<i) (hr:∀ k,k<R.length->R.getD k 0<G.length)
  (hc:∀ x,x<G.length->(G.flatten++R).count x=1):Tree G R:=by
 have hlt:∀ x,x∈G.flatten++R->x<G.length:=by
  intro x hx
  rcases List.mem_append.1 hx with h|h
  ·obtain ⟨l,hl,hx⟩:=List.mem_flatten.1 h
   obtain ⟨i,hi,rfl⟩:=List.mem_iff_getElem.1 hl
   have:=hd i hi x (by rw [Zb9 hi];exact hx)
   omega
  ·obtain ⟨k,hk,rfl⟩:=List.mem_iff_getElem.1 h
   have:=hr k hk
   rwa [Zb9 hk] at this
 have hn:(G.flatten++R).Nodup:=by
  rw [List.nodup_iff_count]
  intro x
  by_cases h:x∈G.flatten++R
  ·rw [hc x (hlt x h)];exact Nat.le_refl _
  ·rw [List.count_eq_zero.2 h];omega
 obtain ⟨n1,n2,n3⟩:=List.nodup_append.1 hn
 have n4:=(List.pairwise_flatten.1 n1).2
 refine ⟨hd,hr,λx hx=>?_,λi j a hi hj ha hb=>?_,λk l hk hl e=>?_,λk i hk hi hm=>?_⟩
 ·have hm:x∈G.flatten++R:=List.count_pos_iff.1 (by rw [hc x hx];omega)
  rcases List.mem_append.1 hm with h|h
  ·obtain ⟨l,hl,hx⟩:=List.mem_flatten.1 h
   obtain ⟨i,hi,rfl⟩:=List.mem_iff_getElem.1 hl
   exact .inr ⟨i,hi,by rw [Zb9 hi];exact hx⟩
  ·obtain ⟨k,hk,rfl⟩:=List.mem_iff_getElem.1 h
   exact .inl ⟨k,hk,Zb9 hk⟩
 ·rw [Zb9 hi] at ha
  rw [Zb9 hj] at hb
  rcases Nat.lt_trichotomy i j with h|h|h
  ·exact absurd rfl (List.pairwise_iff_getElem.1 n4 i j hi hj h a ha a hb)
  ·exact h
  ·exact absurd rfl (List.pairwise_iff_getElem.1 n4 j i hj hi h a hb a ha)
 ·rw [Zb9 hk,Zb9 hl] at e
  rcases Nat.lt_trichotomy k l with h|h|h
  ·exact absurd e (List.pairwise_iff_getElem.1 n2 k l hk hl h)
  ·exact h
  ·exact absurd e.symm (List.pairwise_iff_getElem.1 n2 l k hl hk h)
 ·rw [Zb9 hk] at hm
  rw [Zb9 hi] at hm
  exact n3 _ (List.mem_flatten.2 ⟨_,List.getElem_mem hi,hm⟩) _ (List.getElem_mem hk) rfl
open Go.ChangeShapes Go.WideShapes Go.ChangeAt Go.RowKit
theorem P.own:ownKnob Tryz.prog.godebug=none:=kr
theorem P.laidOut:laidOutB Tryz.prog=true:=kr
theorem trodAll_below {H:Type} {enc:TypeId×Value->H} {W W':World}:∀ (ts:List TypeId) (vs:List Value) (ds:List (DataW H)) (ps:List MemPlace),
  (∀ t∈ts,Tryz.prog.readableRec t=true/\t<Tryz.prog.types.size)->DataW.TrodAll enc Tryz.prog W 0 (λ_=>true) true ts vs ds ps->Below W.heap.size W W'->(∀ x∈ps,x.block<W.heap.size) ->
  DataW.TrodAll enc Tryz.prog W' 0 (λb=>decide (b<W.heap.size)) true ts vs ds ps
 | [],vs,ds,ps,_,h,_,_=>by
  obtain ⟨rfl,rfl,rfl⟩:=trodAll_nil h
  exact trodAll_mk0
 | t::ts,vs,ds,ps,hr,h,hb,hlt=>by
  obtain ⟨v,vs',d,ds',p,q,rfl,rfl,rfl,h0,r0⟩:=trodAll_cons h
  exact trodAll_cons_mk (Below.trod P.laidOut (hr t qs).1 (hr t qs).2 h0 hb (λx hx=>hlt x (by simp [hx]))) (trodAll_below ts vs' ds' q (λt' ht'=>hr t' (by simp [ht'])) r0 hb (λx hx=>hlt x (by simp [hx])))
theorem trodAll_len {H:Type} {enc:TypeId×Value->H} {W:World} {b:Nat} {sp:Nat->Bool} {hd:Bool}:∀ (ts:List TypeId) (vs:List Value) (ds:List (DataW H)) (ps:List MemPlace),DataW.TrodAll enc Tryz.prog W b sp hd ts vs ds ps->ds.length=ts.length
 | [],vs,ds,ps,h=>by
  obtain ⟨rfl,rfl,rfl⟩:=trodAll_nil h
  rfl
 | t::ts,vs,ds,ps,h=>by
  obtain ⟨v,vs',d,ds',p,q,rfl,rfl,rfl,h0,r0⟩:=trodAll_cons h
  simp [trodAll_len ts vs' ds' q r0]
end Go.Proofs.YticdknjoapdmeaaGreatDoor
namespace Go.Proofs.YticdknjoapdmeaaGreatDoor
set_option maxRecDepth 100000
open Go.ChangeShapes Go.WideShapes Go.ChangeAt Go.RowKit Go.Deep
open Go.ChangeMaps (open_string shut_string)
theorem T.cellInt:Tryz.prog.cellsOf 3=1:=kr
section
variable {H:Type} {enc:TypeId×Value->H} {W:World}
def Can (enc:TypeId×Value->H) (W:World) (t:TypeId) (cs:List Value):Prop:=∃ fuel x,DataW.trod enc Tryz.prog W 0 (λ_=>true) true fuel t cs=some x
def Arg (enc:TypeId×Value->H) (W:World) (t:TypeId) (v:Value):Prop:=Can enc W t v.cells.toList/\∃ base,Value.okWide Tryz.prog W .any base t v
theorem Can.int {t:TypeId} {k:IntKind} {cs:List Value} (h:Can enc W t cs) (ht:Tryz.prog.underlying t=some (.int k)):∃ n,cs=[.int k n]/\(Lit.int k n).wf=true:=by
 obtain ⟨fuel,x,h⟩:=h
 obtain ⟨n,h1,_,h2⟩:=DataW.trod_int ht h
 exact ⟨n,h1,h2⟩
theorem Can.bool {t:TypeId} {cs:List Value} (h:Can enc W t cs) (ht:Tryz.prog.underlying t=some .bool):∃ b,cs=[.bool b]:=by
 obtain ⟨fuel,x,h⟩:=h
 obtain ⟨b,h1,_⟩:=DataW.trod_bool ht h
 exact ⟨b,h1⟩
theorem Can.string {t:TypeId} {cs:List Value} (h:Can enc W t cs) (ht:Tryz.prog.underlying t=some .string):∃ s:ByteArray,cs=[.string s]/\s.size<=maxLen:=by
 obtain ⟨fuel,x,h⟩:=h
 obtain ⟨s,h1,_,h2⟩:=DataW.trod_string ht h
 exact ⟨s,h1,h2⟩
theorem Can.field {t:TypeId} {fs:Array Field} {cs:List Value} (h:Can enc W t cs) (ht:Tryz.prog.underlying t=some (.struct fs)) (i:Nat) (f:Field) (hf:fs[i]? = some f) :
  Can enc W f.type ((cs.drop f.offset).take (Tryz.prog.cellsOf f.type)):=by
 obtain ⟨fuel,x,h⟩:=h
 obtain ⟨xs,n,_,hx,hl,hlen,hg⟩:=DataW.trod_struct ht h
 have h1:=hg i f hf
 have hi:i<xs.length:=by rw [hlen];exact (Array.getElem?_eq_some_iff.1 hf).1
 rw [List.getElem?_eq_getElem hi] at h1
 exact ⟨n,_,h1⟩
theorem Can.slice {t e:TypeId} {cs:List Value} (h:Can enc W t cs) (ht:Tryz.prog.underlying t=some (.slice e)) (size:Nat) (hsz:Tryz.prog.cellsOf e=size) (hpos:0<size) :
  ∃ (v:Value) (n:Nat) (xs:List Value),cs=[v]/\Rd W 0 W.heap.size size v n xs/\∀ i,i<n->Can enc W e ((xs.drop (i*size)).take size):=by
 obtain ⟨fuel,x,h⟩:=h
 subst hsz
 rcases open_slice ht h with ⟨rfl,_⟩|⟨a,len,cap,m,n,D,Pl,rfl,hb,hl,hm,hmm,hx,hi⟩
 ·exact ⟨_,0,[],rfl,⟨qs,none,0,rfl,qs,qs,λh=>absurd h qo⟩,λi h=>absurd h qo⟩
 ·have hml:len<=m:=by simp at hmm;omega
  have hcell:∀ i,i<len->∀ j,j<Tryz.prog.cellsOf e->∃ u,W.cell? (a.add (i*Tryz.prog.cellsOf e+j))=some u:=by
   intro i hi' j hj
   obtain ⟨cs',hc,_⟩:=hi i qo
   obtain ⟨_,hcl,hat⟩:=World.cells?_some hc
   have:=hat j hj
   rw [Go.Deep.add_add,List.getElem?_eq_getElem qo] at this
   exact ⟨_,this⟩
  rcases Nat.eq_zero_or_pos len with h0|h0
  ·subst h0
   exact ⟨_,0,[],rfl,⟨qs,some a,cap,rfl,qo,hm,λh=>absurd h qo⟩,λi h=>absurd h qo⟩
  obtain ⟨b,off,spot⟩:=a
  have hspot:spot=none:=by
   obtain ⟨u,hu⟩:=hcell 0 h0 0 hpos
   simpa [Addr.add] using World.cell?_spot hu
  subst hspot
  have hadd:∀ k,(Addr.mk b off none).add k=⟨b,off+k,none⟩:=by
   intro k;unfold Addr.add;split
   ·rename_i h;subst h;rfl
   ·rfl
  have hall:∀ j,j<len*Tryz.prog.cellsOf e->∃ u,W.cell? ⟨b,off+j,none⟩=some u:=by
   intro j hj
   have h1:j / Tryz.prog.cellsOf e<len:=by rw [Nat.div_lt_iff_lt_mul hpos];exact hj
   obtain ⟨u,hu⟩:=hcell (j / Tryz.prog.cellsOf e) h1 (j % Tryz.prog.cellsOf e) (Nat.mod_lt _ hpos)
   rw [Nat.div_add_mod',hadd] at hu
   exact ⟨u,hu⟩
  let xs:=(List.range (len*Tryz.prog.cellsOf e)).map λj=>(W.cell? ⟨b,off+j,none⟩).getD undef
  have hxl:xs.length=len*Tryz.prog.cellsOf e:=by simp [xs]
  have hxs:∀ j,j<len*Tryz.prog.cellsOf e->W.cell? ⟨b,off+j,none⟩=xs[j]? := by
   intro j hj
   obtain ⟨u,hu⟩:=hall j hj
   simp [xs,hj,hu]
  have hbl:b<W.heap.size:=by
   obtain ⟨u,hu⟩:=hall 0 (Nat.mul_pos h0 hpos)
   exact block_lt_of_cell hu
  refine ⟨_,len,xs,rfl,⟨hxl,_,cap,rfl,hl,hm,λ_=>⟨b,off,rfl,Nat.zero_le _,hbl,hxs⟩⟩,λi hi'=>?_⟩
  obtain ⟨cs',hc,ht'⟩:=hi i qo
  obtain ⟨_,hcl,hat⟩:=World.cells?_some hc
  have hle:(i+1)*Tryz.prog.cellsOf e<=len*Tryz.prog.cellsOf e:=Nat.mul_le_mul_right _ hi'
  rw [Nat.succ_mul] at hle
  have:(xs.drop (i*Tryz.prog.cellsOf e)).take (Tryz.prog.cellsOf e)=cs':=by
   apply List.ext_getElem?
   intro j
   by_cases hj:j<Tryz.prog.cellsOf e
   ·have h1:=hat j hj
    rw [Go.Deep.add_add,hadd,hxs _ qo] at h1
    rw [List.getElem?_take_of_lt hj,List.getElem?_drop]
    exact h1
   ·rw [List.getElem?_eq_none (by simp;omega),List.getElem?_eq_none qo]
  rw [this]
  exact ⟨n,_,ht'⟩
theorem Can.intRow {t e:TypeId} {cs:List Value} (h:Can enc W t cs) (ht:Tryz.prog.underlying t=some (.slice e)) (he:Tryz.prog.underlying e=some (.int .i64)) (hsz:Tryz.prog.cellsOf e=1) :
  ∃ (v:Value) (l:List Int),cs=[v]/\Rd W 0 W.heap.size 1 v l.length (ints l)/\∀ n∈l,(Lit.int .i64 n).wf=true:=by
 obtain ⟨v,n,xs,rfl,hr,hc⟩:=h.slice ht 1 hsz qo
 have hl:=hr.1
 have:∃ l:List Int,xs=ints l/\∀ n∈l,(Lit.int .i64 n).wf=true:=by
  have key:∀ u∈xs,∃ n,u=Value.int .i64 n/\(Lit.int .i64 n).wf=true:=by
   intro u hu
   obtain ⟨i,hi,rfl⟩:=List.getElem_of_mem hu
   obtain ⟨m,hm,hw⟩:=(hc i qo).int he
   rw [Nat.mul_one,List.drop_eq_getElem_cons hi,List.take_succ_cons] at hm
   injection hm with hm _
   exact ⟨m,hm,hw⟩
  clear hl hc hr
  induction xs with
  | nil=>exact ⟨[],rfl,qs⟩
  | cons u xs ih =>
   obtain ⟨l,rfl,hl⟩:=ih (λu hu=>key u (by simp [hu]))
   obtain ⟨n,rfl,hn⟩:=key u qs
   exact ⟨n::l,rfl,by simpa using ⟨hn,hl⟩⟩
 obtain ⟨l,rfl,hw⟩:=this
 obtain rfl:n=l.length:=by simp at hl;omega
 exact ⟨v,l,rfl,hr,hw⟩
theorem Arg.cell {t:TypeId} {v:Value} (h:Arg enc W t v) (hc:∀ cs,v ≠ .agg cs):Can enc W t [v]:=by
 have:=h.1
 cases v<;>first|exact this|exact absurd rfl (hc _)
theorem Arg.int {t:TypeId} {k:IntKind} {v:Value} (h:Arg enc W t v) (ht:Tryz.prog.underlying t=some (.int k)):∃ n,v=.int k n/\(Lit.int k n).wf=true:=by
 obtain ⟨hc,base,ho⟩:=h
 obtain ⟨n,rfl⟩:=okWide_int ht ho
 obtain ⟨m,hm,hw⟩:=Can.int hc ht
 simp [Value.cells] at hm
 exact ⟨n,rfl,hm ▸ hw⟩
theorem Arg.bool {t:TypeId} {v:Value} (h:Arg enc W t v) (ht:Tryz.prog.underlying t=some .bool):∃ n,v=.bool n:=by
 obtain ⟨hc,base,ho⟩:=h
 exact okWide_bool ht ho
theorem Arg.string {t:TypeId} {v:Value} (h:Arg enc W t v) (ht:Tryz.prog.underlying t=some .string):∃ s:ByteArray,v=.string s/\s.size<=maxLen:=by
 obtain ⟨hc,base,ho⟩:=h
 obtain ⟨n,rfl⟩:=okWide_string ht ho
 obtain ⟨m,hm,hw⟩:=Can.string hc ht
 simp [Value.cells] at hm
 exact ⟨n,rfl,hm ▸ hw⟩
theorem Arg.slice {t e:TypeId} {v:Value} (h:Arg enc W t v) (ht:Tryz.prog.underlying t=some (.slice e)):Can enc W t [v]:=by
 obtain ⟨hc,base,ho⟩:=h
 obtain ⟨a,n,c,rfl⟩:=okWide_slice ht ho
 exact hc
theorem Arg.struct {t:TypeId} {fs:Array Field} {v:Value} (h:Arg enc W t v) (ht:Tryz.prog.underlying t=some (.struct fs)):∃ cs:List Value,v=.agg ⟨cs⟩/\Can enc W t cs:=by
 obtain ⟨hc,base,ho⟩:=h
 obtain ⟨cs,rfl,hsz⟩:=okWide_struct ht ho
 obtain ⟨cs⟩:=cs
 exact ⟨cs,rfl,hc⟩
end
section
variable {H:Type} {enc:TypeId×Value->H} {W:World} {base:Nat} {args:Array Value} {ds:List (DataW H)} {ps:List MemPlace}
theorem args1 {t0:TypeId} (h:DataW.TrodAll enc Tryz.prog W 0 (λ_=>true) true [t0] args.toList ds ps) (hv:∀ (j:Nat) t v,[t0][j]? = some t->args[j]? = some v->Value.okWide Tryz.prog W .any base t v) :
  ∃ v0,args = #[v0]/\Arg enc W t0 v0:=by
 obtain ⟨v0,vs0,d0,ds0,p0,q0,hargs,rfl,rfl,h0,r0⟩:=trodAll_cons h
 obtain ⟨rfl,rfl,rfl⟩:=trodAll_nil r0
 obtain rfl:args = #[v0]:=by cases args;simp_all
 obtain ⟨f0,h0⟩:=h0
 exact ⟨v0,rfl,⟨f0,_,h0⟩,base,hv 0 t0 v0 rfl rfl⟩
end
end Go.Proofs.YticdknjoapdmeaaGreatDoor
namespace Go.Proofs.YticdknjoapdmeaaGreatDoor
set_option maxRecDepth 512
open Go.Lib
theorem digitVal_of {d:Nat} (h:d<10):digitVal (UInt8.ofNat (48+d))=some d :=
 (by decide:∀ d:Fin 10,digitVal (UInt8.ofNat (48+d.val))=some d.val) ⟨d,h⟩
theorem Zff:∀ (l m:List UInt8) (acc:Nat),decFrom acc (l++m)=(decFrom acc l).bind λn=>decFrom n m
 | [],m,acc=>rfl
 | b::r,m,acc=>by
  simp only [List.cons_append,decFrom]
  cases digitVal b with
  | none=>rfl
  | some d=>exact Zff r m _
theorem Zcn (u:Nat):decFrom 0 (decDigits u)=some u:=by
 induction u using Nat.strongRecOn with
 | _ u ih =>
  rw [decDigits]
  by_cases h:u<10
  ·rw [dif_pos h];simp only [decFrom,digitVal_of h,Nat.zero_mul,Nat.zero_add]
  ·rw [dif_neg h,Zff,ih (u / 10) (by omega)]
   simp only [Option.bind_some,decFrom,digitVal_of (show u % 10<10 by omega),Option.some.injEq]
   omega
theorem decDigits_ne (u:Nat):decDigits u≠[]:=by
 rw [decDigits];split<;>simp
theorem decNat_decDigits (u:Nat):decNat (decDigits u)=some u:=by
 have:=decDigits_ne u
 unfold decNat
 rw [if_neg (by simpa using this)]
 exact Zcn u
theorem Zdg {u:Nat} {b:UInt8} (h:b∈decDigits u):48<=b.toNat/\b.toNat<=57:=by
 obtain ⟨k,hk,rfl⟩:=List.getElem_of_mem h
 obtain ⟨d,hd⟩:=digit_of_decFrom _ 0 u (Zcn u) k _ (List.getElem?_eq_getElem hk)
 have:=digitVal_eq hd
 exact ⟨this.1,this.2.1⟩
theorem atoi_itoa (n:Int):atoi (itoa n)=some n:=by
 unfold itoa
 by_cases h:n<0
 ·rw [if_pos h]
  simp only [atoi,beq_self_eq_true,if_true,decNat_decDigits,Option.map_some,Option.some.injEq]
  omega
 ·rw [if_neg h]
  have hd:=decNat_decDigits n.toNat
  have hb:∀ b∈decDigits n.toNat,48<=b.toNat:=λb hb=>(Zdg hb).1
  cases hl:decDigits n.toNat with
  | nil=>exact absurd hl (decDigits_ne _)
  | cons b r =>
   rw [hl] at hd hb
   have h1:=hb b (by simp)
   have n45:(b==45)=false:=by
    rw [beq_eq_false_iff_ne];rintro rfl;exact absurd h1 (by decide)
   have n43:(b==43)=false:=by
    rw [beq_eq_false_iff_ne];rintro rfl;exact absurd h1 (by decide)
   simp only [atoi,n45,n43,hd,Option.map_some]
   simp only [Bool.false_eq_true,if_false,Option.some.injEq]
   omega
def Zcg (n:Int):Prop := -1000000000<=n/\n<=1000000000
instance (n:Int):Decidable (Zcg n):=inferInstanceAs (Decidable (_/\_))
def fmtI (n:Int):List UInt8:=if Zcg n then itoa n else []
def parseI (l:List UInt8):Option Int:=(atoi l).filter λv=>decide (fmtI v=l)
theorem fmtI_in {n:Int} (h:Zcg n):fmtI n=itoa n:=if_pos h
theorem fmtI_out {n:Int} (h:¬ Zcg n):fmtI n=[]:=if_neg h
theorem itoa_ne (n:Int):itoa n≠[]:=by
 unfold itoa;split
 ·simp
 ·exact decDigits_ne _
theorem fmtI_ne {n:Int} (h:Zcg n):fmtI n≠[]:=by rw [fmtI_in h];exact itoa_ne n
theorem Zdt {l:List UInt8} {v:Int} (h:parseI l=some v):Zcg v/\l=itoa v/\fmtI v=l:=by
 unfold parseI at h
 cases ha:atoi l with
 | none=>rw [ha] at h;simp at h
 | some u =>
  rw [ha] at h
  simp only [Option.filter_some,decide_eq_true_eq] at h
  split at h
  ·rename_i hu
   obtain rfl:=Option.some.inj h
   have hne:l≠[]:=by rintro rfl;simp [atoi] at ha
   have hn:Zcg u:=by
    by_cases hn:Zcg u
    ·exact hn
    ·rw [fmtI_out hn] at hu;exact absurd hu.symm hne
   exact ⟨hn,by rw [<- hu,fmtI_in hn],hu⟩
  ·cases h
theorem parseI_of {l:List UInt8} {v:Int} (hl:l≠[]) (h:fmtI v=l):parseI l=some v:=by
 have hn:Zcg v:=by
  by_cases hn:Zcg v
  ·exact hn
  ·rw [fmtI_out hn] at h;exact absurd h.symm hl
 have e:l=itoa v:=by rw [<- h,fmtI_in hn]
 unfold parseI
 rw [show atoi l=some v from by rw [e];exact atoi_itoa v]
 simp [Option.filter_some,h]
theorem parseI_fmtI {n:Int} (h:Zcg n):parseI (fmtI n)=some n:=parseI_of (fmtI_ne h) rfl
theorem Zef:∀ (k u:Nat),u<10 ^ (k+1)->nDigits u<=k+1
 | 0,u,h=>by rw [nDigits_small (by simpa using h)];decide
 | k+1,u,h=>by
  by_cases h1:u<10
  ·rw [nDigits_small h1];omega
  ·rw [nDigits_big h1]
   have:=Zef k (u / 10) (Nat.div_lt_of_lt_mul (by rw [Nat.pow_succ,Nat.mul_comm] at h;exact h))
   omega
theorem Zb0 (n:Int):(fmtI n).length<=11:=by
 unfold fmtI
 split
 ·rename_i h
  obtain ⟨h1,h2⟩:=h
  unfold itoa
  split
  ·rw [List.length_cons,decDigits_length]
   have:=Zef 9 n.natAbs (by omega)
   omega
  ·rw [decDigits_length]
   have:=Zef 9 n.toNat (by omega)
   omega
 ·simp
theorem parseI_len {l:List UInt8} {v:Int} (h:parseI l=some v):l.length<=11:=by
 have:=Zb0 v
 rw [(Zdt h).2.2] at this
 exact this
theorem itoa_at {n:Int} {k:Nat} {b:UInt8} (h:(itoa n)[k]? = some b):(k=0/\n<0/\b=45)∨(48<=b.toNat/\b.toNat<=57):=by
 unfold itoa at h
 split at h
 ·rename_i hn
  cases k with
  | zero=>simp at h;exact .inl ⟨rfl,hn,h.symm⟩
  | succ k =>
   rw [List.getElem?_cons_succ] at h
   exact .inr (Zdg (List.mem_of_getElem? h))
 ·exact .inr (Zdg (List.mem_of_getElem? h))
theorem itoa_mem {n:Int} {b:UInt8} (h:b∈itoa n):b=45∨(48<=b.toNat/\b.toNat<=57):=by
 obtain ⟨k,hk,rfl⟩:=List.getElem_of_mem h
 rcases itoa_at (List.getElem?_eq_getElem hk) with h|h
 ·exact .inl h.2.2
 ·exact .inr h
theorem parseI_bad {l:List UInt8} {k:Nat} {b:UInt8} (hk:l[k]? = some b) (hb:¬ (48<=b.toNat/\b.toNat<=57)) (h0:k=0->b≠45):parseI l=none:=by
 cases h:parseI l with
 | none=>rfl
 | some v =>
  obtain ⟨_,e,_⟩:=Zdt h
  rw [e] at hk
  rcases itoa_at hk with ⟨rfl,_,e⟩|h
  ·exact absurd e (h0 rfl)
  ·exact absurd h hb
theorem Zf2 {l:List UInt8} (h:12<l.length):parseI l=none:=by
 cases hp:parseI l with
 | none=>rfl
 | some v=>have:=parseI_len hp;omega
theorem parseI_pos {l:List UInt8} {n:Nat} (h:decFrom 0 l=some n) (hne:fmtI (n:Int)≠l):parseI l=none:=by
 cases hp:parseI l with
 | none=>rfl
 | some v =>
  obtain ⟨_,e,e'⟩:=Zdt hp
  exfalso
  unfold itoa at e
  split at e
  ·rw [e] at h;simp [decFrom,digitVal] at h
  ·rename_i hv
   rw [e,Zcn] at h
   have:(n:Int)=v:=by have:=Option.some.inj h;omega
   rw [this] at hne
   exact hne e'
theorem parseI_neg {l:List UInt8} {n:Nat} (h:decFrom 0 l=some n) (hne:fmtI (-(n:Int))≠45::l):parseI (45::l)=none:=by
 cases hp:parseI (45::l) with
 | none=>rfl
 | some v =>
  obtain ⟨_,e,e'⟩:=Zdt hp
  exfalso
  unfold itoa at e
  split at e
  ·rename_i hv
   obtain rfl:=(List.cons.inj e).2
   rw [Zcn] at h
   have : -(n:Int)=v:=by have:=Option.some.inj h;omega
   rw [this] at hne
   exact hne e'
  ·have:=(Zdg (u:=v.toNat) (b:=45) (by rw [<- e];simp)).1
   exact absurd this (by decide)
theorem parseI_atoiAll {l:List UInt8}:parseI l=match atoiAll l with | .ok v=>if fmtI v=l/\l≠[] then some v else none|_=>none:=by
 by_cases hl:l.length<=18
 ·rw [atoiAll_short l hl]
  unfold parseI
  cases ha:atoi l with
  | none=>rfl
  | some v =>
   have hne:l≠[]:=by rintro rfl;simp [atoi] at ha
   simp [NumEnd.ofOption,Option.filter_some,hne]
 ·rw [Zf2 (by omega)]
  have hbad:∀ v,fmtI v≠l:=λv e=>by have:=Zb0 v;rw [e] at this;omega
  cases atoiAll l<;>simp [hbad]
end Go.Proofs.YticdknjoapdmeaaGreatDoor
namespace Go.Proofs.YticdknjoapdmeaaGreatDoor
open Go.RowKit
def clampF (n lo hi:Int):Int:=if hi<lo∨n<lo then lo else if n>hi then hi else n
def inB (n lo hi:Int):Bool:=decide (lo<=n)&&decide (n<=hi)
theorem Zbk {n lo hi:Int} (h:inB n lo hi=true):lo<=n/\n<=hi:=by simpa [inB] using h
theorem inB_mk {n lo hi:Int} (h1:lo<=n) (h2:n<=hi):inB n lo hi=true:=by simp [inB,h1,h2]
theorem S_Clamp (n lo hi:Int) (w:World) :
  Calls Tryz.prog 285 #[.int .i64 n,.int .i64 lo,.int .i64 hi] w λe w'=>e=.returned (.int .i64 (clampF n lo hi))/\w=w':=by
 go_enter Tryz.func285,Tryz.ntmps285
 go_wp2
 all_goals
  go_ret
  exact ⟨ret_int (by unfold clampF;(repeat' split)<;>omega),rfl⟩
theorem I_Clamp (n lo hi:Int) (w:World) :
  Calls Tryz.prog 221 #[.int .i64 n,.int .i64 lo,.int .i64 hi] w λe w'=>e=.returned (.int .i64 (clampF n lo hi))/\w=w':=by
 go_enter Tryz.func221,Tryz.ntmps221
 go_wp2
 all_goals
  go_ret
  exact ⟨ret_int (by unfold clampF;(repeat' split)<;>omega),rfl⟩
theorem S_in (n lo hi:Int) (w:World) :
  Calls Tryz.prog 119 #[.int .i64 n,.int .i64 lo,.int .i64 hi] w λe w'=>e=.returned (.bool (inB n lo hi))/\w=w':=by
 go_enter Tryz.func119,Tryz.ntmps119
 go_wp2
 all_goals
  go_ret
  exact ⟨Zad (by unfold inB;first|rfl|(rw [Bool.eq_iff_iff];simp;try omega)),rfl⟩
theorem I_within (n lo hi:Int) (w:World) :
  Calls Tryz.prog 77 #[.int .i64 n,.int .i64 lo,.int .i64 hi] w λe w'=>e=.returned (.bool (inB n lo hi))/\w=w':=by
 go_enter Tryz.func77,Tryz.ntmps77
 go_wp2
 all_goals
  go_ret
  exact ⟨Zad (by unfold inB;first|rfl|(rw [Bool.eq_iff_iff];simp;try omega)),rfl⟩
theorem Zca {n lo hi:Int} {b:Bool} (hb:inB n lo hi=b) (w:World):Calls Tryz.prog 119 #[.int .i64 n,.int .i64 lo,.int .i64 hi] w λe w'=>e=.returned (.bool b)/\w=w':=by
 subst hb;exact S_in n lo hi w
theorem Zbx {n lo hi:Int} {b:Bool} (hb:inB n lo hi=b) (w:World):Calls Tryz.prog 77 #[.int .i64 n,.int .i64 lo,.int .i64 hi] w λe w'=>e=.returned (.bool b)/\w=w':=by
 subst hb;exact I_within n lo hi w
end Go.Proofs.YticdknjoapdmeaaGreatDoor
namespace Go.Proofs.YticdknjoapdmeaaGreatDoor
set_option maxRecDepth 100000
open Go.RowKit Go.Lib
abbrev str (l:List UInt8):Value:=.string ⟨l.toArray⟩
theorem conv_byte (b:UInt8) (n:Int) (hn:n=(b.toNat:Int)) (W:World) :
  (convert 36 9 (.slice (some ⟨W.heap.size,0,none⟩) 1 1)).run Tryz.prog (W.alloc (.cells #[.int .u8 n] 5))=.ok (str [b]) (W.alloc (.cells #[.int .u8 n] 5)) :=
 run_convert_bytes_back _ _ _ _ _ _ [b] Tryz.underlying36 Tryz.underlying5 Tryz.underlying9 (λj hj=>by
  obtain rfl:j=0:=by simpa using hj
  subst hn
  exact World.cell?_alloc_new _ _ _ _)
def dgt (d:Nat):UInt8:=UInt8.ofNat (48+d)
theorem Zab (a b:List UInt8):({ data:=a.toArray }++{ data:=b.toArray }:ByteArray)=⟨(a++b).toArray⟩:=by
 apply ByteArray.ext;simp
theorem dec_len {m n:Nat} {s:List UInt8} (h:decDigits m++s=decDigits n) (hn:n<=1000000000):s.length<=10:=by
 have h1:=congrArg List.length h
 rw [List.length_append,decDigits_length n] at h1
 have:=Zef 9 n qo
 omega
theorem ofNat_dig {d:Nat} (h:d<10):(48+(d:Int))=((dgt d).toNat:Int):=by
 unfold dgt
 have:(UInt8.ofNat (48+d)).toNat=48+d:=by simp [UInt8.toNat_ofNat'];omega
 rw [this];omega
theorem u8_dig {d:Nat} (h:d<10):IntKind.u8.wrap (48+(d:Int))=48+d:=by
 have e:(2:Int) ^ IntKind.u8.bits=256:=rfl
 have e':IntKind.u8.signed=false:=rfl
 simp only [IntKind.wrap,e,e']
 simp
 omega
theorem dig_step {m:Nat} (h:9<m):∃ d q:Nat,(m:Int).tmod 10=d/\(m:Int).tdiv 10=q/\(d<10/\q*10+d=m)/\decDigits m=decDigits q++[dgt d]:=by
 refine ⟨m % 10,m / 10, ?_, ?_,⟨qo,qo⟩, ?_⟩
 ·rw [Int.tmod_eq_emod_of_nonneg qo];omega
 ·rw [Int.tdiv_eq_ediv_of_nonneg qo];omega
 ·rw [decDigits,dif_neg qo];rfl
set_option maxHeartbeats 4000000 in
theorem Zdk (n:Nat) (hn:n<=1000000000) (w:World) :
  Calls Tryz.prog 58 #[.int .i64 n] w λe w'=>e=.returned (str (decDigits n))/\Below w.heap.size w w':=by
 have HN:=hdQ hn
 have h0:¬ (n:Int)<0:=qo
 have hi:inB n (-1000000000) 1000000000=true:=inB_mk qo qo
 go_enter Tryz.func58,Tryz.ntmps58
 go_wp2_with (first|(go_at_call 119;refine (S_in _ _ _ _).mono ?_;rw [hi];rintro e w' ⟨rfl,rfl⟩)|fail)
 go_loopw [0,3] (λp q wr=>∃ (m:Nat) (s:List UInt8),p=.int .i64 m/\q=str s/\m<=1000000000/\decDigits m++s=decDigits n/\Below w.heap.size w wr) (λp _ _=>(intOf p).toNat)
 case atStart=>exact ⟨n,[],rfl,rfl,hn,qs,bll⟩
 case round =>
  obtain ⟨m,s,rfl,rfl,hm,hs,hb⟩:=hrel
  have HS:=hdQ hs
  have HB:=hdQ hb
  have hz:=hb.size
  have hsl:¬ 9223372036854775807<1+s.length:=by have:=dec_len hs hn;omega
  clear hs hb hi h0 hn
  by_cases h9:9<m
  ·obtain ⟨d,q,hd,hq,hdq,hdd⟩:=dig_step h9
   have h1:(9:Int)<(m:Int):=qo
   have hd1:IntKind.i64.wrap (48+(d:Int))=48+d:=IntWalk.i64_in _ qo
   have hd2:IntKind.u8.wrap (48+(d:Int))=48+d:=u8_dig hdq.1
   have hcv:=conv_byte _ _ (ofNat_dig hdq.1)
   clear h9
   go_wp2_with fail
   go_roundw
   case rel =>
    refine ⟨q,dgt d::s,rfl, ?_,qo, ?_,bll⟩
    ·show Value.string (({ data:=[dgt d].toArray }:ByteArray)++{ data:=s.toArray })=_
     rw [Zab];rfl
    ·have:=HS.out;rw [hdd] at this;simpa using this
   case measure=>simp [intOf];omega
  ·have h1:¬ (9:Int)<(m:Int):=by omega
   have hcv:=conv_byte _ _ (ofNat_dig (d:=m) qo)
   have hd1:IntKind.i64.wrap (48+(m:Int))=48+m:=IntWalk.i64_in _ qo
   have hd2:IntKind.u8.wrap (48+(m:Int))=48+m:=u8_dig qo
   go_wp2_with fail
   go_ret
   refine ⟨?_,bll⟩
   show Ending.returned (Value.string (({ data:=[dgt m].toArray }:ByteArray)++{ data:=s.toArray }))=_
   rw [Zab,show ([dgt m]++s:List UInt8)=decDigits n from by rw [<- HS.out,decDigits,dif_pos qo];rfl]
end Go.Proofs.YticdknjoapdmeaaGreatDoor
namespace Go.Proofs.YticdknjoapdmeaaGreatDoor
open Go.RowKit
abbrev Zac:=Int×List UInt8×Int×List Int
abbrev Zaa:=List UInt8×Int
abbrev Zae:=List Zac×List Zaa
def RowOf {α:Type} (sz:Nat) (P:World->List Value->α->Prop) (w:World) (v:Value) (l:List α):Prop :=
 ∃ (A:Option Addr) (c:Nat) (cs:List Value),v=.slice A l.length c/\RS w sz A l.length c cs/\∀ (i:Nat) (h:i<l.length),P w ((cs.drop (i*sz)).take sz) l[i]
theorem RowOf.step {α:Type} {sz:Nat} {P:World->List Value->α->Prop} {w w':World} {v:Value} {l:List α} (hb:Below w.heap.size w w') (hP:∀ cs x,P w cs x->P w' cs x) (h:RowOf sz P w v l):RowOf sz P w' v l:=by
 obtain ⟨A,c,cs,rfl,hr,hc⟩:=h
 exact ⟨A,c,cs,rfl,RS.step hb hr,λi hi=>hP _ _ (hc i hi)⟩
theorem RowOf.len {α:Type} {sz:Nat} {P:World->List Value->α->Prop} {w:World} {v:Value} {l:List α} (h:RowOf sz P w v l):l.length<=maxLen:=by
 obtain ⟨A,c,cs,rfl,hr,hc⟩:=h
 exact hr.len
theorem RowOf.open_ {α:Type} {sz:Nat} {P:World->List Value->α->Prop} {w:World} {v:Value} {l:List α} (h:RowOf sz P w v l):∃ (A:Option Addr) (c:Nat),v=.slice A l.length c/\l.length<=c/\c<=maxLen /\
  ∀ (i:Nat) (hi:i<l.length),∃ b o cs,A=some ⟨b,o,none⟩/\b<w.heap.size/\P w cs l[i]/\cs.length=sz/\∀ j,j<sz->w.cell? ⟨b,o+(i*sz+j),none⟩=cs[j]? := by
 obtain ⟨A,c,cs,rfl,hr,hc⟩:=h
 have hxl:=hr.xlen
 obtain ⟨h1,h2,h3⟩:=hr.open_
 refine ⟨A,c,rfl,h1,h2,λi hi=>?_⟩
 obtain ⟨b,o,hA,hb,hcell⟩:=h3 qo
 have hle:(i+1)*sz<=l.length*sz:=Nat.mul_le_mul_right _ hi
 rw [Nat.succ_mul] at hle
 refine ⟨b,o,_,hA,hb,hc i hi,by rw [List.length_take,List.length_drop];omega,λj hj=>?_⟩
 rw [hcell _ qo,List.getElem?_take_of_lt hj,List.getElem?_drop]
def IntsAt (w:World) (v:Value) (l:List Int):Prop:=∃ (A:Option Addr) (c:Nat),v=.slice A l.length c/\RS w 1 A l.length c (ints l)
theorem IntsAt.step {w w':World} {v:Value} {l:List Int} (hb:Below w.heap.size w w') (h:IntsAt w v l):IntsAt w' v l:=by
 obtain ⟨A,c,rfl,hr⟩:=h
 exact ⟨A,c,rfl,RS.step hb hr⟩
def NodeAt (w:World) (cs:List Value) (x:Zac):Prop:=∃ v,cs=[.int .i64 x.1,str x.2.1,.int .i64 x.2.2.1,v]/\x.2.1.length<=maxLen/\IntsAt w v x.2.2.2
theorem NodeAt.step {w w':World} (hb:Below w.heap.size w w') (cs:List Value) (x:Zac) (h:NodeAt w cs x):NodeAt w' cs x:=by
 obtain ⟨v,rfl,hl,hr⟩:=h
 exact ⟨v,rfl,hl,hr.step hb⟩
def AssignAt (w:World) (cs:List Value) (x:Zaa):Prop:=cs=[str x.1,.int .i64 x.2]/\x.1.length<=maxLen
abbrev NodesAt:=RowOf 4 NodeAt
abbrev AssignsAt:=RowOf 2 AssignAt
theorem NodesAt.step {w w':World} {v:Value} {l:List Zac} (hb:Below w.heap.size w w') (h:NodesAt w v l):NodesAt w' v l:=RowOf.step hb (λcs x hx=>NodeAt.step hb cs x hx) h
theorem AssignsAt.step {w w':World} {v:Value} {l:List Zaa} (hb:Below w.heap.size w w') (h:AssignsAt w v l):AssignsAt w' v l:=RowOf.step hb (λcs x hx=>hx) h
def ProgAt (w:World) (cs:List Value) (x:Zae):Prop:=∃ u v,cs=[u,v]/\NodesAt w u x.1/\AssignsAt w v x.2
theorem ProgAt.step {w w':World} (hb:Below w.heap.size w w') (cs:List Value) (x:Zae) (h:ProgAt w cs x):ProgAt w' cs x:=by
 obtain ⟨u,v,rfl,h1,h2⟩:=h
 exact ⟨u,v,rfl,NodesAt.step hb h1,AssignsAt.step hb h2⟩
abbrev ProgsAt:=RowOf 2 ProgAt
theorem ProgsAt.step {w w':World} {v:Value} {l:List Zae} (hb:Below w.heap.size w w') (h:ProgsAt w v l):ProgsAt w' v l:=RowOf.step hb (λcs x hx=>ProgAt.step hb cs x hx) h
section
variable {H:Type} {enc:TypeId×Value->H} {W:World}
theorem Can.rowOf {α:Type} {t e:TypeId} {cs:List Value} {P:World->List Value->α->Prop} (h:Can enc W t cs) (ht:Tryz.prog.underlying t=some (.slice e)) (size:Nat) (hsz:Tryz.prog.cellsOf e=size) (hpos:0<size) (hP:∀ ys,Can enc W e ys->∃ x,P W ys x) :
  ∃ (v:Value) (l:List α),cs=[v]/\RowOf size P W v l:=by
 obtain ⟨v,n,xs,rfl,hr,hc⟩:=h.slice ht size hsz hpos
 have hch:∀ m,m<=n->∃ l:List α,l.length=m/\∀ (i:Nat) (h:i<l.length),P W ((xs.drop (i*size)).take size) l[i]:=by
  intro m
  induction m with
  | zero=>intro _;exact ⟨[],rfl,λi h=>absurd h qs⟩
  | succ m ih =>
   intro hm
   obtain ⟨l,hl,hp⟩:=ih qo
   obtain ⟨x,hx⟩:=hP _ (hc m qo)
   refine ⟨l++[x],by simp [hl],λi hi=>?_⟩
   rcases Nat.lt_or_ge i l.length with h1|h1
   ·rw [List.getElem_append_left h1];exact hp i h1
   ·have hi':i=l.length:=by simp at hi;omega
    subst hi'
    rw [List.getElem_concat_length rfl,hl];exact hx
 obtain ⟨l,hl,hp⟩:=hch n (Nat.le_refl _)
 subst hl
 have u:=hr
 obtain ⟨_,A,c,rfl,_⟩:=hr
 exact ⟨_,l,rfl,A,c,xs,rfl,RS.mk_ u,hp⟩
end
section
variable {H:Type} {enc:TypeId×Value->H} {W:World}
theorem Can.ints {cs:List Value} (h:Can enc W 24 cs):∃ (v:Value) (l:List Int),cs=[v]/\IntsAt W v l:=by
 obtain ⟨v,l,rfl,hr,_⟩:=h.intRow Tryz.underlying24 Tryz.underlying3 T.cellInt
 have u:=hr
 obtain ⟨_,A,c,rfl,_⟩:=hr
 exact ⟨_,l,rfl,A,c,rfl,RS.mk_ u⟩
theorem Can.str {cs:List Value} (h:Can enc W 9 cs):∃ l:List UInt8,cs=[str l]/\l.length<=maxLen:=by
 obtain ⟨s,rfl,hs⟩:=h.string Tryz.underlying9
 exact ⟨s.data.toList,rfl,hs⟩
end
set_option maxRecDepth 512
def letterB (b:UInt8):Bool:=decide (97<=b.toNat/\b.toNat<=122)
def digitB (b:UInt8):Bool:=decide (48<=b.toNat/\b.toNat<=57)
def Zer (l:List UInt8) (k:Nat):Bool:=(l.take k).zipIdx.all λx=>letterB x.1||(digitB x.1&&decide (x.2≠0))
def Za9 (l:List UInt8):Bool:=Zer l l.length&&decide (1<=l.length/\l.length<=8)
theorem identTo_succ {l:List UInt8} {k:Nat} (h:k<l.length):Zer l (k+1)=(Zer l k&&(letterB l[k]||(digitB l[k]&&decide (k≠0)))):=by
 unfold Zer
 rw [List.take_succ_eq_append_getElem h,List.zipIdx_append,List.all_append]
 simp [List.length_take,Nat.min_eq_left (Nat.le_of_lt h)]
theorem identTo_mono {l:List UInt8} {k m:Nat} (hkm:k<=m) (hm:m<=l.length) (h:Zer l m=true):Zer l k=true:=by
 induction m with
 | zero =>
  obtain rfl:k=0:=by omega
  exact h
 | succ m ih =>
  by_cases e:k=m+1
  ·subst e;exact h
  ·rw [identTo_succ qo] at h
   simp only [Bool.and_eq_true] at h
   exact ih qo qo h.1
theorem isIdent_no {l:List UInt8} {k:Nat} (hk:k<l.length) (h:(letterB l[k]||(digitB l[k]&&decide (k≠0)))=false):Za9 l=false:=by
 cases hi:Za9 l
 ·rfl
 ·unfold Za9 at hi
  simp only [Bool.and_eq_true] at hi
  have h1:=identTo_mono (show k+1<=l.length by omega) (Nat.le_refl _) hi.1
  rw [identTo_succ hk,h] at h1
  simp at h1
def Zbi (op:Int):Bool:=decide (op=2)||decide (op=8)
def Zbh (op:Int) (n:Nat):Bool:=if op=1∨op=2 then decide (n=0) else if op=3 then decide (n=1) else if 4<=op/\op<=7 then decide (n=2) else if op=8 then decide (n<=3) else false
def Zdc (x:Zac):Bool:=(if Zbi x.1 then Za9 x.2.1 else decide (x.2.1=[]))&&(if x.1=1 then inB x.2.2.1 0 2559999 else decide (x.2.2.1=0))&&Zbh x.1 x.2.2.2.length
def argsOk (k:Nat) (l:List Int):Bool:=l.all λa=>inB a 0 ((k:Int)-1)
def Zdb (k:Nat) (x:Zac):Bool:=Zdc x&&argsOk k x.2.2.2
def Zbz (n:Nat) (x:Zaa):Bool:=Za9 x.1&&inB x.2 0 ((n:Int)-1)
def Zb3 (p:Zae):List (List Nat):=p.1.map λx=>x.2.2.2.map Int.toNat
def Zds (p:Zae):List Nat:=p.2.map λx=>x.2.toNat
def usesP (p:Zae):List Nat:=(Zb3 p).flatten++Zds p
def Zbg (p:Zae) (k:Nat):Bool:=(p.1.take k).zipIdx.all λx=>Zdb x.2 x.1
def Zbp (p:Zae) (k:Nat):Bool:=(p.2.take k).all (Zbz p.1.length)
def Zat (p:Zae):Bool:=decide (p.1.length<=60)&&Zbg p p.1.length&&Zbp p p.2.length&&(List.range p.1.length).all λx=>(usesP p).count x==1
theorem Ze1 {p:Zae} {k:Nat} (h:k<p.1.length):Zbg p (k+1)=(Zbg p k&&Zdb k p.1[k]):=by
 unfold Zbg
 rw [List.take_succ_eq_append_getElem h,List.zipIdx_append,List.all_append]
 simp [List.length_take,Nat.min_eq_left (Nat.le_of_lt h)]
theorem assignsTo_succ {p:Zae} {k:Nat} (h:k<p.2.length):Zbp p (k+1)=(Zbp p k&&Zbz p.1.length p.2[k]):=by
 unfold Zbp
 rw [List.take_succ_eq_append_getElem h,List.all_append];simp
theorem Zcl {p:Zae} {k:Nat} (h:Zbg p p.1.length=true) (hk:k<p.1.length):Zdb k p.1[k]=true:=by
 unfold Zbg at h
 rw [List.take_length,List.all_eq_true] at h
 exact h (p.1[k],k) (List.mk_mem_zipIdx_iff_getElem?.2 (List.getElem?_eq_getElem hk))
theorem Ze7 {p:Zae} {k:Nat} (h:Zbp p p.2.length=true) (hk:k<p.2.length):Zbz p.1.length p.2[k]=true:=by
 unfold Zbp at h
 rw [List.take_length,List.all_eq_true] at h
 exact h _ (List.getElem_mem hk)
theorem args_lt {p:Zae} (h:Zbg p p.1.length=true) {i:Nat} (hi:i<p.1.length):∀ a,a∈(Zb3 p).getD i []->a<i:=by
 intro a ha
 rw [Zb9 (by unfold Zb3;simpa using hi)] at ha
 simp only [Zb3,List.getElem_map,List.mem_map] at ha
 obtain ⟨z,hz,rfl⟩:=ha
 have h1:=Zcl h hi
 unfold Zdb argsOk at h1
 simp only [Bool.and_eq_true,List.all_eq_true] at h1
 have:=Zbk (h1.2 z hz)
 omega
theorem validP_tree {p:Zae} (h:Zat p=true):Tree (Zb3 p) (Zds p):=by
 unfold Zat at h
 simp only [Bool.and_eq_true,List.all_eq_true,List.mem_range,beq_iff_eq] at h
 obtain ⟨⟨⟨_,h1⟩,h2⟩,h3⟩:=h
 have hl:(Zb3 p).length=p.1.length:=by simp [Zb3]
 refine Tree.of_count (λi hi a ha=>args_lt h1 qo a ha) (λk hk=>?_) (λx hx=>h3 x qo)
 have hk':k<p.2.length:=by unfold Zds at hk;simpa using hk
 have h4:=Ze7 h2 hk'
 unfold Zbz at h4
 simp only [Bool.and_eq_true] at h4
 have:=Zbk h4.2
 rw [Zb9 hk,hl]
 simp only [Zds,List.getElem_map]
 omega
end Go.Proofs.YticdknjoapdmeaaGreatDoor
namespace Go.Proofs.YticdknjoapdmeaaGreatDoor
open Go.Lib
def Zd4 (r k:Nat):Bool:=decide ((r*10 ^ k+255) / 256<10 ^ k)&&decide ((r*10 ^ k+255) / 256*256 / 10 ^ k=r)
theorem fracOk_3 {r:Nat} (h:r<256):Zd4 r 3=true:=by
 unfold Zd4
 simp only [Bool.and_eq_true,decide_eq_true_eq]
 omega
def fracLen (r:Nat):Nat:=if Zd4 r 1 then 1 else if Zd4 r 2 then 2 else 3
theorem fracLen_ok {r:Nat} (h:r<256):Zd4 r (fracLen r)=true:=by
 unfold fracLen
 split
 ·assumption
 ·split
  ·assumption
  ·exact fracOk_3 h
theorem Zf8 (r:Nat):1<=fracLen r/\fracLen r<=3:=by
 unfold fracLen;split
 ·omega
 ·split<;>omega
theorem fracLen_least {r k:Nat} (h1:1<=k) (h2:k<fracLen r):Zd4 r k=false:=by
 unfold fracLen at h2
 split at h2
 ·omega
 ·next h =>
  split at h2
  ·obtain rfl:k=1:=by omega
   simpa using h
  ·next h' =>
   rcases (show k=1∨k=2 by omega) with rfl|rfl
   ·simpa using h
   ·simpa using h'
def Zcr (r:Nat):Nat:=(r*10 ^ fracLen r+255) / 256
theorem fracNum_lt {r:Nat} (h:r<256):Zcr r<10 ^ fracLen r:=by
 have:=fracLen_ok h
 unfold Zd4 at this
 simp only [Bool.and_eq_true,decide_eq_true_eq] at this
 exact this.1
theorem Zax:∀ (k u:Nat),1<=k->u<10 ^ k->(decDigits u).length<=k
 | 0,_,h,_=>by omega
 | k+1,u,_,h=>by
  rw [decDigits]
  split
  ·simp
  ·next h10 =>
   rcases Nat.eq_zero_or_pos k with rfl|hk
   ·simp at h;omega
   ·rw [List.length_append]
    have:=Zax k (u / 10) hk (by rw [Nat.pow_succ] at h;omega)
    simp;omega
def fracT (r:Nat):List UInt8:=List.replicate (fracLen r-(decDigits (Zcr r)).length) 48++decDigits (Zcr r)
theorem fracT_len {r:Nat} (h:r<256):(fracT r).length=fracLen r:=by
 have h1:=Zax (fracLen r) (Zcr r) (Zf8 r).1 (fracNum_lt h)
 unfold fracT
 rw [List.length_append,List.length_replicate]
 omega
def numF (n:Int):List UInt8:=if 0<=n/\n<=2559999 then (if n % 256=0 then decDigits (n / 256).toNat else decDigits (n / 256).toNat++46::fracT (n % 256).toNat) else []
end Go.Proofs.YticdknjoapdmeaaGreatDoor
namespace Go.Proofs.YticdknjoapdmeaaGreatDoor
open Go.RowKit Go.Lib
def opB (op:Int):UInt8:=if op=4 then 43 else if op=5 then 45 else if op=6 then 42 else 47
def Zdd (x:Zac) (ts:List (List UInt8)):List UInt8 :=
 if x.1=1 then numF x.2.2.1 else if x.1=2 then x.2.1 else if x.1=3 then [40,45]++ts.getD 0 []++[41]
 else if x.1=8 then x.2.1++[40]++join ts [44,32]++[41]
 else [40]++ts.getD 0 []++[32]++[opB x.1]++[32]++ts.getD 1 []++[41]
def textF (p:Zae):Nat->Nat->List UInt8
 | 0,_=>[]
 | f+1,k=>match p.1[k]? with
  | none=>[]
  | some x=>Zdd x (x.2.2.2.map λ(a:Int)=>textF p f a.toNat)
def textP (p:Zae) (k:Nat):List UInt8:=textF p (k+1) k
theorem Zfo {p:Zae} (h:Zbg p p.1.length=true) {k:Nat} (hk:k<p.1.length):∀ a∈p.1[k].2.2.2,0<=a/\a<k:=by
 intro a ha
 have h1:=Zcl h hk
 unfold Zdb argsOk at h1
 simp only [Bool.and_eq_true,List.all_eq_true] at h1
 have:=Zbk (h1.2 a ha)
 omega
theorem textF_fuel {p:Zae} (h:Zbg p p.1.length=true):∀ f k,k<f->textF p f k=textP p k:=by
 intro f
 induction f using Nat.strongRecOn with
 | ind f ih =>
  intro k hkf
  unfold textP
  obtain ⟨g,rfl⟩:∃ g,f=g+1:=⟨f-1,qo⟩
  show (match p.1[k]? with|none=>[]|some x=>Zdd x (x.2.2.2.map λ(a:Int)=>textF p g a.toNat))=(match p.1[k]? with|none=>[]|some x=>Zdd x (x.2.2.2.map λ(a:Int)=>textF p k a.toNat))
  rcases Nat.lt_or_ge k p.1.length with hk|hk
  ·rw [List.getElem?_eq_getElem hk]
   show Zdd p.1[k] _=Zdd p.1[k] _
   congr 1
   apply List.map_congr_left
   intro a ha
   have:=Zfo h hk a ha
   rw [ih g qo _ qo]
   by_cases e:k=g+1
   ·omega
   ·rw [ih k qo _ qo]
  ·rw [List.getElem?_eq_none hk]
theorem textP_eq {p:Zae} (h:Zbg p p.1.length=true) {k:Nat} (hk:k<p.1.length):textP p k=Zdd p.1[k] (p.1[k].2.2.2.map λ(a:Int)=>textP p a.toNat):=by
 show (match p.1[k]? with|none=>[]|some x=>Zdd x (x.2.2.2.map λ(a:Int)=>textF p k a.toNat))=_
 rw [List.getElem?_eq_getElem hk]
 show Zdd p.1[k] _=Zdd p.1[k] _
 congr 1
 apply List.map_congr_left
 intro a ha
 have:=Zfo h hk a ha
 exact textF_fuel h _ _ qo
def sizeG (G:List (List Nat)):Nat->Nat->Nat
 | 0,_=>0
 | f+1,k=>14+((G.getD k []).map (sizeG G f)).sum
def sizeN (G:List (List Nat)) (k:Nat):Nat:=sizeG G (k+1) k
theorem map_sum_congr {l:List Nat} {f g:Nat->Nat} (h:∀ a∈l,f a=g a):(l.map f).sum=(l.map g).sum:=by rw [List.map_congr_left h]
theorem sizeG_fuel {G:List (List Nat)} (hG:∀ k a,a∈G.getD k []->a<k):∀ f k,k<f->sizeG G f k=sizeN G k:=by
 intro f
 induction f using Nat.strongRecOn with
 | ind f ih =>
  intro k hkf
  unfold sizeN
  obtain ⟨g,rfl⟩:∃ g,f=g+1:=⟨f-1,qo⟩
  show 14+((G.getD k []).map (sizeG G g)).sum=14+((G.getD k []).map (sizeG G k)).sum
  congr 1
  apply map_sum_congr
  intro a ha
  have:=hG k a ha
  rw [ih g qo _ qo]
  by_cases e:k=g+1
  ·omega
  ·rw [ih k qo _ qo]
theorem sizeN_eq {G:List (List Nat)} (hG:∀ k a,a∈G.getD k []->a<k) (k:Nat):sizeN G k=14+((G.getD k []).map (sizeN G)).sum:=by
 show 14+((G.getD k []).map (sizeG G k)).sum=_
 congr 1
 apply map_sum_congr
 intro a ha
 exact sizeG_fuel hG _ _ (by have:=hG k a ha;omega)
theorem mem_le_sum {l:List Nat} {f:Nat->Nat} {a:Nat} (h:a∈l):f a<=(l.map f).sum:=by
 induction l with
 | nil=>cases h
 | cons b t ih =>
  rw [List.map_cons,List.sum_cons]
  rcases List.mem_cons.1 h with rfl|h
  ·omega
  ·have:=ih h;omega
theorem flat_sum (f:Nat->Nat):∀ G:List (List Nat),(G.flatten.map f).sum=(G.map λl=>(l.map f).sum).sum:=by
 intro G
 induction G with
 | nil=>rfl
 | cons a t ih=>rw [List.flatten_cons,List.map_append,List.sum_append,ih,List.map_cons,List.sum_cons]
theorem range_sum_getD (G:List (List Nat)) (f:List Nat->Nat):((List.range G.length).map λi=>f (G.getD i [])).sum=(G.map f).sum:=by
 have:(List.range G.length).map (λi=>f (G.getD i []))=G.map f:=by
  apply List.ext_getElem
  ·simp
  ·intro i h1 h2
   have hi:i<G.length:=by simpa using h2
   rw [List.getElem_map,List.getElem_map,List.getElem_range,Zb9 hi]
 rw [this]
theorem const_sum (n:Nat) (g:Nat->Nat):((List.range n).map λi=>14+g i).sum=14*n+((List.range n).map g).sum:=by
 induction n with
 | zero=>rfl
 | succ n ih =>
  rw [List.range_succ,List.map_append,List.map_append,List.sum_append,List.sum_append,ih]
  simp;omega
theorem sum_perm {l m:List Nat} (h:l.Perm m):l.sum=m.sum:=by
 induction h with
 | nil=>rfl
 | cons x _ ih=>rw [List.sum_cons,List.sum_cons,ih]
 | swap x y l=>simp only [List.sum_cons];omega
 | trans _ _ h1 h2=>exact h1.trans h2
theorem roots_sum {G:List (List Nat)} {R:List Nat} (hG:∀ k a,a∈G.getD k []->a<k) (hp:(G.flatten++R).Perm (List.range G.length)):(R.map (sizeN G)).sum=14*G.length:=by
 have h1:=sum_perm (hp.map (sizeN G))
 rw [List.map_append,List.sum_append,flat_sum] at h1
 have h2:((List.range G.length).map (sizeN G)).sum=14*G.length+((List.range G.length).map λi=>((G.getD i []).map (sizeN G)).sum).sum:=by
  rw [<- const_sum]
  congr 1
  apply List.map_congr_left
  intro i _
  exact sizeN_eq hG i
 rw [range_sum_getD G (λl=>(l.map (sizeN G)).sum)] at h2
 omega
theorem count_range (x:Nat):∀ n,(List.range n).count x=if x<n then 1 else 0
 | 0=>by simp
 | n+1=>by
  rw [List.range_succ,List.count_append,count_range x n,List.count_cons,List.count_nil]
  by_cases h:x=n
  ·subst h;simp
  ·have:¬ n=x:=λe=>h e.symm
   simp only [beq_iff_eq,this,if_false]
   by_cases h2:x<n
   ·rw [if_pos h2,if_pos qo]
   ·rw [if_neg h2,if_neg qo]
theorem perm_of_count {l:List Nat} {n:Nat} (h:∀ x,x<n->l.count x=1) (hl:∀ x∈l,x<n):l.Perm (List.range n):=by
 rw [List.perm_iff_count]
 intro x
 by_cases hx:x<n
 ·rw [h x hx,count_range,if_pos hx]
 ·rw [List.count_eq_zero.2 (λhm=>hx (hl x hm)),List.count_eq_zero.2 (λhm=>hx (List.mem_range.1 hm))]
section
variable {p:Zae}
theorem Zb8 (h:Zat p=true):p.1.length<=60:=by
 unfold Zat at h
 simp only [Bool.and_eq_true,decide_eq_true_eq] at h
 exact h.1.1.1
theorem Za7 (h:Zat p=true):Zbg p p.1.length=true:=by
 unfold Zat at h
 simp only [Bool.and_eq_true] at h
 exact h.1.1.2
theorem valid_assigns (h:Zat p=true):Zbp p p.2.length=true:=by
 unfold Zat at h
 simp only [Bool.and_eq_true] at h
 exact h.1.2
theorem Zbt:(Zb3 p).length=p.1.length:=by simp [Zb3]
theorem valid_down (h:Zbg p p.1.length=true):∀ k a,a∈(Zb3 p).getD k []->a<k:=by
 intro k a ha
 rcases Nat.lt_or_ge k p.1.length with hk|hk
 ·exact args_lt h hk a ha
 ·rw [List.getD_eq_getElem?_getD,List.getElem?_eq_none (by rw [Zbt];exact hk)] at ha
  cases ha
theorem Zfj (h:Zat p=true) {k:Nat} (hk:k<p.2.length):Za9 p.2[k].1=true/\0<=p.2[k].2/\p.2[k].2<p.1.length:=by
 have h4:=Ze7 (valid_assigns h) hk
 unfold Zbz at h4
 simp only [Bool.and_eq_true] at h4
 have:=Zbk h4.2
 exact ⟨h4.1,qo,qo⟩
theorem valid_perm (h:Zat p=true):((Zb3 p).flatten++Zds p).Perm (List.range (Zb3 p).length):=by
 rw [Zbt]
 have h0:=h
 unfold Zat at h
 simp only [Bool.and_eq_true,List.all_eq_true,List.mem_range,beq_iff_eq] at h
 refine perm_of_count (λx hx=>h.2 x hx) (λx hx=>?_)
 rcases List.mem_append.1 hx with hx|hx
 ·obtain ⟨l,hl,hxl⟩:=List.mem_flatten.1 hx
  obtain ⟨i,hi,rfl⟩:=List.getElem_of_mem hl
  have:=args_lt (Za7 h0) (i:=i) (by rw [Zbt] at hi;exact hi) x (by rw [Zb9 hi];exact hxl)
  rw [Zbt] at hi
  omega
 ·obtain ⟨i,hi,rfl⟩:=List.getElem_of_mem hx
  have hi':i<p.2.length:=by unfold Zds at hi;simpa using hi
  have:=Zfj h0 hi'
  simp only [Zds,List.getElem_map]
  omega
theorem size_le (h:Zat p=true):∀ d k,k+d=p.1.length->k<p.1.length->sizeN (Zb3 p) k<=840:=by
 have hp:=valid_perm h
 have hd:=valid_down (Za7 h)
 have hr:=roots_sum hd hp
 rw [Zbt] at hr
 have hl:=Zb8 h
 intro d
 induction d using Nat.strongRecOn with
 | ind d ih =>
  intro k hkd hk
  have hm:k∈(Zb3 p).flatten++Zds p:=hp.mem_iff.2 (List.mem_range.2 (by rw [Zbt];exact hk))
  rcases List.mem_append.1 hm with hm|hm
  ·obtain ⟨l,hl2,hxl⟩:=List.mem_flatten.1 hm
   obtain ⟨i,hi,rfl⟩:=List.getElem_of_mem hl2
   have hxl':k∈(Zb3 p).getD i []:=by rw [Zb9 hi];exact hxl
   have hlt:=hd i k hxl'
   rw [Zbt] at hi
   have h1:=ih (d-(i-k)) qo i qo hi
   rw [sizeN_eq hd i] at h1
   have:=mem_le_sum (f:=sizeN (Zb3 p)) hxl'
   omega
  ·have:=mem_le_sum (f:=sizeN (Zb3 p)) hm
   omega
theorem ident_len {l:List UInt8} (h:Za9 l=true):1<=l.length/\l.length<=8:=by
 unfold Za9 at h
 simp only [Bool.and_eq_true,decide_eq_true_eq] at h
 exact h.2
theorem node_name (h:Zat p=true) {k:Nat} (hk:k<p.1.length):p.1[k].2.1.length<=8:=by
 have h1:=Zcl (Za7 h) hk
 unfold Zdb Zdc at h1
 simp only [Bool.and_eq_true] at h1
 have h2:=h1.1.1.1
 split at h2
 ·exact (ident_len h2).2
 ·rw [of_decide_eq_true h2];simp
theorem node_shape (h:Zat p=true) {k:Nat} (hk:k<p.1.length):Zbh p.1[k].1 p.1[k].2.2.2.length=true:=by
 have h1:=Zcl (Za7 h) hk
 unfold Zdb Zdc at h1
 simp only [Bool.and_eq_true] at h1
 exact h1.1.2
theorem numF_len (n:Int):(numF n).length<=14:=by
 unfold numF
 split
 ·next h =>
  have h1:(decDigits (n / 256).toNat).length<=4:=Zax 4 _ qo qo
  split
  ·omega
  ·have h2:=fracT_len (r:=(n % 256).toNat) qo
   have h3:=Zf8 (n % 256).toNat
   rw [List.length_append,List.length_cons,h2]
   omega
 ·simp
theorem join_len2 (ts:List (List UInt8)):(join ts [44,32]).length<=(ts.map List.length).sum+2*(ts.length-1):=by
 cases ts with
 | nil=>simp [join_nil]
 | cons a t =>
  rw [join_cons,List.length_append,List.map_cons,List.sum_cons,List.length_cons]
  have:∀ r:List (List UInt8),(joinTail [44,32] r).length=(r.map List.length).sum+2*r.length:=by
   intro r
   induction r with
   | nil=>simp [joinTail]
   | cons b s ih =>
    have e:joinTail [44,32] (b::s)=[44,32]++b++joinTail [44,32] s:=by simp [joinTail]
    rw [e,List.length_append,List.length_append,ih,List.map_cons,List.sum_cons,List.length_cons]
    simp only [List.length_cons,List.length_nil]
    omega
  rw [this]
  omega
theorem getD_len_le:∀ (ts:List (List UInt8)) (i:Nat),(ts.getD i []).length<=(ts.map List.length).sum
 | [],i=>by simp
 | a::t,0=>by simp
 | a::t,i+1=>by
  have:=getD_len_le t i
  rw [List.map_cons,List.sum_cons,List.getD_cons_succ]
  omega
theorem getD2_len_le (ts:List (List UInt8)):(ts.getD 0 []).length+(ts.getD 1 []).length<=(ts.map List.length).sum:=by
 cases ts with
 | nil=>simp
 | cons a t =>
  have:=getD_len_le t 0
  simp only [List.getD_cons_zero,List.getD_cons_succ,List.map_cons,List.sum_cons]
  omega
theorem nodeT_len {x:Zac} {ts:List (List UInt8)} (h1:x.2.1.length<=8) (h2:Zbh x.1 ts.length=true):(Zdd x ts).length<=14+(ts.map List.length).sum:=by
 unfold Zdd
 split
 ·have:=numF_len x.2.2.1;omega
 ·split
  ·omega
  ·split
   ·have:=getD_len_le ts 0
    simp only [List.length_append,List.length_cons,List.length_nil];omega
   ·split
    ·next h8 =>
     have h3:ts.length<=3:=by
      unfold Zbh at h2
      rw [h8] at h2
      simpa using h2
     have:=join_len2 ts
     simp only [List.length_append,List.length_cons,List.length_nil];omega
    ·have:=getD2_len_le ts
     simp only [List.length_append,List.length_cons,List.length_nil];omega
theorem sum_le_sum {l:List Int} {f g:Int->Nat} (h:∀ a∈l,f a<=g a):(l.map f).sum<=(l.map g).sum:=by
 induction l with
 | nil=>simp
 | cons a t ih =>
  rw [List.map_cons,List.map_cons,List.sum_cons,List.sum_cons]
  have h1:=h a qs
  have h2:=ih (λb hb=>h b (by simp [hb]))
  omega
theorem textP_size (h:Zat p=true):∀ k,k<p.1.length->(textP p k).length<=sizeN (Zb3 p) k:=by
 have hn:=Za7 h
 intro k
 induction k using Nat.strongRecOn with
 | ind k ih =>
  intro hk
  rw [textP_eq hn hk,sizeN_eq (valid_down hn)]
  refine Nat.le_trans (nodeT_len (node_name h hk) (by rw [List.length_map];exact node_shape h hk)) ?_
  have e:(Zb3 p).getD k []=p.1[k].2.2.2.map Int.toNat:=by
   rw [Zb9 (by rw [Zbt];exact hk)];simp [Zb3]
  rw [e,List.map_map,List.map_map]
  refine Nat.add_le_add_left (sum_le_sum λa ha=>?_) _
  have:=Zfo hn hk a ha
  exact ih a.toNat qo qo
theorem textP_len (h:Zat p=true) {k:Nat} (hk:k<p.1.length):(textP p k).length<=840 :=
 Nat.le_trans (textP_size h k hk) (size_le h (p.1.length-k) k qo hk)
theorem Zbw (h:Zat p=true):p.2.length<=60:=by
 have h1:=(valid_perm h).length_eq
 rw [List.length_append,List.length_range,Zbt] at h1
 have h2:(Zds p).length=p.2.length:=by simp [Zds]
 have:=Zb8 h
 omega
end
def assT (p:Zae) (x:Zaa):List UInt8:=x.1++[32,61,32]++textP p x.2.toNat++[59,10]
def progTo (p:Zae) (k:Nat):List UInt8:=((p.2.take k).map (assT p)).flatten
def Zem (p:Zae):List UInt8:=progTo p p.2.length
theorem progTo_succ {p:Zae} {k:Nat} (h:k<p.2.length):progTo p (k+1)=progTo p k++assT p p.2[k]:=by
 unfold progTo
 rw [List.take_succ_eq_append_getElem h,List.map_append,List.flatten_append]
 simp
theorem assT_len {p:Zae} (h:Zat p=true) {k:Nat} (hk:k<p.2.length):(assT p p.2[k]).length<=853:=by
 obtain ⟨h1,h2,h3⟩:=Zfj h hk
 have:=(ident_len h1).2
 have:=textP_len h (k:=p.2[k].2.toNat) qo
 unfold assT
 simp only [List.length_append,List.length_cons,List.length_nil]
 omega
theorem progTo_len {p:Zae} (h:Zat p=true):∀ k,k<=p.2.length->(progTo p k).length<=853*k
 | 0,_=>by simp [progTo]
 | k+1,hk=>by
  rw [progTo_succ qo,List.length_append]
  have:=progTo_len h k qo
  have:=assT_len h (k:=k) qo
  omega
theorem progT_len {p:Zae} (h:Zat p=true):(Zem p).length<=51180:=by
 have:=progTo_len h p.2.length (Nat.le_refl _)
 have:=Zbw h
 unfold Zem
 omega
end Go.Proofs.YticdknjoapdmeaaGreatDoor
namespace Go.Proofs.YticdknjoapdmeaaGreatDoor
open Go.RowKit
def isVar (l:List UInt8):Bool:=decide (l=[117]∨l=[118]∨l=[120]∨l=[121]∨l=[122]∨l=[116])
def Zet:List UInt8:=[99,111,108,111,114]
def arityF (l:List UInt8):Int :=
 if l=[97,98,115]∨l=[102,108,111,111,114]∨l=[100,117]∨l=[100,118] then 1
 else if l=[109,105,110]∨l=[109,97,120]∨l=[115,116,101,112]∨l=[110,111,105,115,101]∨l=[116,101,120] then 2
 else if l=[99,108,97,109,112]∨l=[109,105,120] then 3 else -1
def hasTo (p:Zae) (name:List UInt8) (before:Int) (k:Nat):Bool:=(p.2.take k).zipIdx.any λx=>decide ((x.2:Int)<before)&&decide (x.1.1=name)
def has (p:Zae) (name:List UInt8) (before:Int):Bool:=hasTo p name before p.2.length
theorem hasTo_succ {p:Zae} {name:List UInt8} {before:Int} {k:Nat} (h:k<p.2.length):hasTo p name before (k+1)=(hasTo p name before k||(decide ((k:Int)<before)&&decide (p.2[k].1=name))):=by
 unfold hasTo
 rw [List.take_succ_eq_append_getElem h,List.zipIdx_append,List.any_append]
 simp [List.length_take,Nat.min_eq_left (Nat.le_of_lt h)]
theorem hasTo_iff {p:Zae} {name:List UInt8} {before:Int} {k:Nat} (hk:k<=p.2.length):hasTo p name before k=true↔∃ (j:Nat) (h:j<p.2.length),j<k/\(j:Int)<before/\p.2[j].1=name:=by
 induction k with
 | zero=>simp [hasTo]
 | succ k ih =>
  rw [hasTo_succ qo,Bool.or_eq_true,ih qo]
  simp only [Bool.and_eq_true,decide_eq_true_eq]
  constructor
  ·rintro (⟨j,h,h1,h2,h3⟩|⟨h2,h3⟩)
   ·exact ⟨j,h,qo,h2,h3⟩
   ·exact ⟨k,qo,qo,h2,h3⟩
  ·rintro ⟨j,h,h1,h2,h3⟩
   by_cases e:j=k
   ·subst e;exact .inr ⟨h2,h3⟩
   ·exact .inl ⟨j,h,qo,h2,h3⟩
def lastTo (p:Zae) (name:List UInt8) (before:Int):Nat->Int
 | 0 => -1
 | k+1=>if (k:Int)<before/\((p.2[k]?).map (·.1))=some name then k else lastTo p name before k
theorem lastTo_succ {p:Zae} {name:List UInt8} {before:Int} {k:Nat} (h:k<p.2.length):lastTo p name before (k+1)=if (k:Int)<before/\p.2[k].1=name then (k:Int) else lastTo p name before k:=by
 have e:(((p.2[k]?).map (·.1))=some name)↔p.2[k].1=name:=by rw [List.getElem?_eq_getElem h];simp
 show (if (k:Int)<before/\((p.2[k]?).map (·.1))=some name then (k:Int) else lastTo p name before k)=_
 simp only [e]
theorem lastTo_has {p:Zae} {name:List UInt8} {before:Int}:∀ {k:Nat},k<=p.2.length->(0<=lastTo p name before k↔hasTo p name before k=true)
 | 0,_=>by simp [lastTo,hasTo]
 | k+1,hk=>by
  have ih:=lastTo_has (p:=p) (name:=name) (before:=before) (show k<=p.2.length by omega)
  rw [hasTo_succ qo,Bool.or_eq_true,<- ih,Bool.and_eq_true,decide_eq_true_eq,decide_eq_true_eq]
  rw [lastTo_succ qo]
  split
  ·next h=>exact ⟨λ_=>.inr h,λ_=>by omega⟩
  ·next h=>exact ⟨.inl,λh'=>h'.elim id (λh'=>absurd h' h)⟩
def Zbc (p:Zae) (name:List UInt8):Nat->Option Nat
 | 0=>none
 | k+1=>match Zbc p name k with
  | some j=>some j
  | none=>if (p.2[k]?).map (·.1)=some name then some k else none
theorem Ze5 {p:Zae} {name:List UInt8}:∀ {k:Nat},k<=p.2.length->Zbc p name k=none->∀ i (hi:i<p.2.length),i<k->p.2[i].1≠name
 | 0,_,_,i,_,h=>by omega
 | k+1,hk,h,i,hi,hik=>by
  unfold Zbc at h
  cases hf:Zbc p name k with
  | some j=>rw [hf] at h;cases h
  | none =>
   rw [hf] at h
   simp only at h
   split at h
   ·cases h
   ·next hc =>
    by_cases e:i=k
    ·subst e
     rw [List.getElem?_eq_getElem hi,Option.map_some,Option.some.injEq] at hc
     exact hc
    ·exact Ze5 (show k<=p.2.length by omega) hf i hi qo
theorem firstTo_some {p:Zae} {name:List UInt8}:∀ {k j:Nat},k<=p.2.length->Zbc p name k=some j->∃ h:j<p.2.length,j<k/\p.2[j].1=name/\∀ i (hi:i<p.2.length),i<j->p.2[i].1≠name
 | 0,j,_,h=>by cases h
 | k+1,j,hk,h=>by
  unfold Zbc at h
  cases hf:Zbc p name k with
  | some i =>
   rw [hf] at h
   cases h
   obtain ⟨h1,h2,h3,h4⟩:=firstTo_some (show k<=p.2.length by omega) hf
   exact ⟨h1,qo,h3,h4⟩
  | none =>
   rw [hf] at h
   simp only at h
   split at h
   ·next hc =>
    cases h
    rw [List.getElem?_eq_getElem qo,Option.map_some,Option.some.injEq] at hc
    refine ⟨qo,qo,hc,λi hi hij e=>?_⟩
    exact Ze5 (show k<=p.2.length by omega) hf i hi hij e
   ·cases h
theorem first_has {p:Zae} {name:List UInt8} (before:Int):(match Zbc p name p.2.length with|some j=>decide ((j:Int)<before)|none=>false)=has p name before:=by
 unfold has
 rw [Bool.eq_iff_iff,hasTo_iff (Nat.le_refl _)]
 cases hf:Zbc p name p.2.length with
 | some j =>
  obtain ⟨h1,h2,h3,h4⟩:=firstTo_some (Nat.le_refl _) hf
  simp only [decide_eq_true_eq]
  constructor
  ·exact λh=>⟨j,h1,h2,h,h3⟩
  ·rintro ⟨i,hi,_,hb,e⟩
   by_cases hij:i<j
   ·exact absurd e (h4 i hi hij)
   ·omega
 | none =>
  simp only [Bool.false_eq_true,false_iff]
  rintro ⟨i,hi,hi2,_,e⟩
  exact Ze5 (Nat.le_refl _) hf i hi hi2 e
def ownP (p:Zae):List Int:=ownS (Zb3 p) (Zds p)
theorem ownP_I {p:Zae} (h:Zat p=true):ownI (Zb3 p) (Zds p)=ownP p:=owners_eq (validP_tree h)
def nameOk (p:Zae) (k:Nat) (x:Zac):Bool:=if x.1=2 then isVar x.2.1||has p x.2.1 ((ownP p).getD k 0) else if x.1=8 then decide (0<=arityF x.2.1) else true
def Zeu (x:Zac):Bool:=if x.1=8 then decide (arityF x.2.1=x.2.2.2.length) else true
def assOk (p:Zae) (k:Nat) (x:Zaa):Bool := !isVar x.1 && !has p x.1 k
def Zbv (p:Zae) (k:Nat):Bool:=(p.1.take k).zipIdx.all λx=>nameOk p x.2 x.1
def Zb2 (p:Zae) (k:Nat):Bool:=(p.1.take k).all Zeu
def Zfs (p:Zae) (k:Nat):Bool:=(p.2.take k).zipIdx.all λx=>assOk p x.2 x.1
def Zbd (p:Zae):Bool:=Zat p&&Zbv p p.1.length&&Zb2 p p.1.length&&Zfs p p.2.length&&has p Zet p.2.length
theorem namesTo_succ {p:Zae} {k:Nat} (h:k<p.1.length):Zbv p (k+1)=(Zbv p k&&nameOk p k p.1[k]):=by
 unfold Zbv
 rw [List.take_succ_eq_append_getElem h,List.zipIdx_append,List.all_append]
 simp [List.length_take,Nat.min_eq_left (Nat.le_of_lt h)]
theorem aritiesTo_succ {p:Zae} {k:Nat} (h:k<p.1.length):Zb2 p (k+1)=(Zb2 p k&&Zeu p.1[k]):=by
 unfold Zb2
 rw [List.take_succ_eq_append_getElem h,List.all_append];simp
theorem asssTo_succ {p:Zae} {k:Nat} (h:k<p.2.length):Zfs p (k+1)=(Zfs p k&&assOk p k p.2[k]):=by
 unfold Zfs
 rw [List.take_succ_eq_append_getElem h,List.zipIdx_append,List.all_append]
 simp [List.length_take,Nat.min_eq_left (Nat.le_of_lt h)]
end Go.Proofs.YticdknjoapdmeaaGreatDoor
