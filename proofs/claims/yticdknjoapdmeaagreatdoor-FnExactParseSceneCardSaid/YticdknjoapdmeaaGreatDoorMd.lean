/- Several texts in one: GramP, ScP, ScQ, Sq, BigW, RowsP, RowsN, RowsG, VecB, VecW, ImageV, NewRows, ProgA, SurfW, RowsU, RowsV, SceneL. -/
import Derived.Test.YticdknjoapdmeaaGreatDoorMc
import Derived.Lib.IndexBytes
import Derived.Test.YticdknjoapdmeaaGreatDoorMa
import Derived.OrdersHeld
import Derived.RegionTactic
import Derived.Laws.Rows
import Derived.Laws.Tables
import Derived.Laws.CopyRow
import Derived.BigQuiet
import Derived.Deep.Cut
import Derived.Deep.RegionHeld3
import Derived.Laws.StructEq
import Derived.Deep.QuietTactic
import Derived.Deep.DeepCutAuto
set_option linter.unusedVariables false
set_option linter.unusedSimpArgs false
namespace Go.Proofs.YticdknjoapdmeaaGreatDoor
set_option maxHeartbeats 16000000
abbrev TK:=Int×List UInt8×Int
def tkOf (x:Zaq):TK:=(x.1,x.2.1,x.2.2.1)
inductive LX:List UInt8->List TK->Prop
 | nil:LX [] []
 | sp {b:UInt8} {l:List UInt8} {ts:List TK} (hb:isSp b=true) (h:LX l ts):LX (b::l) ts
 | tok {b:UInt8} {l:List UInt8} {k:Int} {m v:Nat} {ts:List TK} (hb:isSp b=false) (hs:Zau (b::l)=some (k,m,v)) (h:LX ((b::l).drop m) ts):LX (b::l) ((k,(b::l).take m,(v:Int))::ts)
theorem LX.tokz {src:List UInt8} {s:List UInt8} {ts:List TK} (h:LX s ts):∀ (a n:Nat) (l:List Zaq),s=src.drop a->src.length<a+n->∃ r,tokz src n a l=.ok (l++r)/\r.map tkOf=ts:=by
 induction h with
 | nil =>
  intro a n l hs hn
  have:src.length<=a:=by have:=congrArg List.length hs;simp at this;omega
  exact ⟨[],by rw [Zd0 this];simp,rfl⟩
 | @sp b s ts hb h ih =>
  intro a n l hs hn
  have hal:a<src.length:=by have:=congrArg List.length hs;simp at this;omega
  obtain ⟨n,rfl⟩:∃ m,n=m+1:=⟨n-1,qo⟩
  have hx:src[a]? = some b:=by have:=congrArg (λz=>z[0]?) hs;simpa using this.symm
  rw [Zck hx hb]
  exact ih (a+1) n l (by have:=congrArg List.tail hs;simpa using this) qo
 | @tok b s k m v ts hb hk h ih =>
  intro a n l hs hn
  have hal:a<src.length:=by have:=congrArg List.length hs;simp at this;omega
  obtain ⟨n,rfl⟩:∃ m,n=m+1:=⟨n-1,qo⟩
  have hx:src[a]? = some b:=by have:=congrArg (λz=>z[0]?) hs;simpa using this.symm
  have hj:=Zcf hk
  rw [Zex hx hb (by rw [<- hs];exact hk)]
  obtain ⟨r,h1,h2⟩:=ih (a+m) n (l++[(k,(src.drop a).take m,(v:Int),(a:Int))]) (by rw [hs,List.drop_drop]) qo
  exact ⟨(k,(src.drop a).take m,(v:Int),(a:Int))::r,by rw [h1];simp,by simp [tkOf,h2,hs]⟩
theorem LX.toksF {src:List UInt8} {ts:List TK} (h:LX src ts) (hl:src.length<=2000):∃ r:List Zaq,toksF src=.ok (r++[(0,[],0,(src.length:Int))])/\r.map tkOf=ts:=by
 obtain ⟨r,h1,h2⟩:=h.tokz (src:=src) 0 (src.length+1) [] rfl qo
 refine ⟨r, ?_,h2⟩
 unfold Go.Proofs.YticdknjoapdmeaaGreatDoor.toksF
 rw [if_neg qo,h1]
 rfl
def isNmB (b:UInt8):Bool:=isLt b||isDg b
def Safe (l:List UInt8):Prop:=∀ b,l.head? = some b->isNmB b=false/\b≠46
theorem Safe.nil:Safe []:=λb h=>by cases h
theorem Safe.cons {b:UInt8} {l:List UInt8} (h:(isNmB b=false/\b≠46):=by decide):Safe (b::l):=λc hc=>by simp at hc;subst hc;exact h
theorem LX.name {w l:List UInt8} {ts:List TK} (h:LX l ts) (hs:Safe l) (hw:0<w.length/\w.length<=8/\(∀ b∈w,isNmB b=true)/\(∀ b,w.head? = some b->isLt b=true)):LX (w++l) ((2,w,0)::ts):=by
 obtain ⟨h1,h2,h3,h4⟩:=hw
 match w,h1 with
 | b::w,_ =>
  have hb:=h4 b rfl
  have hn:=(isLt_nat b).1 hb
  have hd:isDg b=false:=Zf7 qo
  have hsp:isSp b=false:=by
   unfold isSp
   have e1:¬ b=32:=by rintro rfl;simp at hn
   have e2:¬ b=10:=by rintro rfl;simp at hn
   simp [e1,e2]
  have hspan:Zba (λc=>isLt c||isDg c) (b::w++l)=(b::w).length:=by
   refine Zfx (λj hj=>?_) (λc hc=>?_)
   ·exact ⟨(b::w)[j],by rw [List.getElem?_append_left hj,List.getElem?_eq_getElem hj],h3 _ (List.getElem_mem hj)⟩
   ·rw [List.getElem?_append_right (Nat.le_refl _),Nat.sub_self] at hc
    exact (hs c (by rw [List.head?_eq_getElem?];exact hc)).1
  have hscan:Zau (b::(w++l))=some (2,(b::w).length,0):=by
   unfold Zau
   have e:Zba (λc=>isLt c||isDg c) (b::(w++l))=(b::w).length:=hspan
   simp only [hd,hb,if_true,e,if_false,Bool.false_eq_true]
   rw [if_neg qo]
  have:=LX.tok hsp hscan (ts:=ts) (by show LX ((b::w++l).drop (b::w).length) ts;rw [List.drop_left];exact h)
  have e2:(b::(w++l)).take (b::w).length=b::w:=List.take_left (l₁:=b::w) (l₂:=l)
  rw [e2] at this
  exact this
def NumT (w:List UInt8) (v:Nat):Prop:=∀ l,Safe l->numTok (w++l)=some (w.length,v)
theorem LX.num {w l:List UInt8} {v:Nat} {ts:List TK} (h:LX l ts) (hs:Safe l) (hw:NumT w v) (hd:∃ b r,w=b::r/\isDg b=true):LX (w++l) ((1,w,(v:Int))::ts):=by
 obtain ⟨b,r,rfl,hb⟩:=hd
 have hn:=(Zed b).1 hb
 have hsp:isSp b=false:=by
  unfold isSp
  have e1:¬ b=32:=by rintro rfl;simp at hn
  have e2:¬ b=10:=by rintro rfl;simp at hn
  simp [e1,e2]
 have hscan:Zau (b::(r++l))=some (1,(b::r).length,v):=by
  unfold Zau
  have e:numTok (b::(r++l))=some ((b::r).length,v):=hw l hs
  simp only [hb,if_true,e]
  rfl
 have:=LX.tok hsp hscan (ts:=ts) (by show LX ((b::r++l).drop (b::r).length) ts;rw [List.drop_left];exact h)
 have e2:(b::(r++l)).take (b::r).length=b::r:=List.take_left (l₁:=b::r) (l₂:=l)
 rw [e2] at this
 exact this
def Seg (T:List Zaq) (a:Nat) (l:List TK):Prop:=∀ (j:Nat) (h:j<l.length),tkOf (tk T (a+j))=l[j]
theorem Seg.app {T:List Zaq} {a:Nat} {x y:List TK} (h:Seg T a (x++y)):Seg T a x/\Seg T (a+x.length) y:=by
 refine ⟨λj hj=>?_,λj hj=>?_⟩
 ·rw [h j (by simp;omega),List.getElem_append_left hj]
 ·rw [Nat.add_assoc,h (x.length+j) (by simp;omega),List.getElem_append_right qo];simp
theorem Seg.cons {T:List Zaq} {a:Nat} {x:TK} {y:List TK} (h:Seg T a (x::y)):tkOf (tk T a)=x/\Seg T (a+1) y:=⟨h 0 qs,(Seg.app (x:=[x]) (y:=y) h).2⟩
theorem Seg.of {r:List Zaq} {e:Zaq} {ts:List TK} (h:r.map tkOf=ts):Seg (r++[e]) 0 ts:=by
 subst h
 intro j hj
 have hj':j<r.length:=by simpa using hj
 unfold tk
 simp [List.getD,List.getElem?_append_left hj',hj']
theorem pk_no {T:List Zaq} {a:Nat} {k:Int} {s:List UInt8} {v:Int} (h:tkOf (tk T a)=(k,s,v)) (hk:k≠3):pk T a=[]:=by
 unfold tkOf at h
 simp only [Prod.mk.injEq] at h
 unfold pk kd
 rw [if_neg (by rw [h.1];exact hk)]
theorem kd_of {T:List Zaq} {a:Nat} {k:Int} {s:List UInt8} {v:Int} (h:tkOf (tk T a)=(k,s,v)):kd T a=k/\tx T a=s/\nm T a=v:=by
 unfold tkOf at h
 simp only [Prod.mk.injEq] at h
 exact h
def PE (T:List Zaq) (m:PM) (d a:Nat) (ns:List Zac) (r:PR):Prop:=∃ n0,∀ n,n0<=n->prs T n m d a ns=r
theorem emit_ok {T:List Zaq} {x:Zac} {a:Nat} {ns:List Zac} (h:ns.length<60):emit T x a ns=.ok ns.length a (ns++[x]):=by unfold emit;rw [if_neg qo]
section
variable {T:List Zaq} {d a a1:Nat} {ns n1:List Zac} {v:Int} {r:PR}
theorem PE.num {s:List UInt8} {u:Int} (h:tkOf (tk T a)=(1,s,u)) (hd:d<=64) (hl:ns.length<60):PE T .fac d a ns (.ok ns.length (a+1) (ns++[(1,[],u,[])])):=by
 refine ⟨1,λn hn=>?_⟩
 obtain ⟨n,rfl⟩:∃ m,n=m+1:=⟨n-1,qo⟩
 have h1:=pk_no h qd
 obtain ⟨h2,h3,h4⟩:=kd_of h
 rw [prs,if_neg qo,if_neg (by rw [h1];simp),if_neg (by rw [h1];simp),if_pos h2,emit_ok hl,h4]
theorem PE.name {s:List UInt8} {u:Int} (h:tkOf (tk T a)=(2,s,u)) (hd:d<=64) (hl:ns.length<60) (hp:pk T (a+1)≠[40]):PE T .fac d a ns (.ok ns.length (a+1) (ns++[(2,s,0,[])])):=by
 refine ⟨1,λn hn=>?_⟩
 obtain ⟨n,rfl⟩:∃ m,n=m+1:=⟨n-1,qo⟩
 have h1:=pk_no h qd
 obtain ⟨h2,h3,h4⟩:=kd_of h
 rw [prs,if_neg qo,if_neg (by rw [h1];simp),if_neg (by rw [h1];simp),if_neg (by rw [h2];decide),if_pos h2,if_neg hp,emit_ok hl,h3]
theorem PE.call {s:List UInt8} {u:Int} (h:tkOf (tk T a)=(2,s,u)) (hd:d<=64) (hp:pk T (a+1)=[40]) (k:PE T (.args s []) (d+1) (a+2) ns r):PE T .fac d a ns r:=by
 obtain ⟨n0,k⟩:=k
 refine ⟨n0+1,λn hn=>?_⟩
 obtain ⟨n,rfl⟩:∃ m,n=m+1:=⟨n-1,qo⟩
 have h1:=pk_no h qd
 obtain ⟨h2,h3,h4⟩:=kd_of h
 rw [prs,if_neg qo,if_neg (by rw [h1];simp),if_neg (by rw [h1];simp),if_neg (by rw [h2];decide),if_pos h2,if_pos hp,h3,k n qo]
theorem PE.neg (h:pk T a=[45]) (hd:d<=64) (k:PE T .fac (d+1) (a+1) ns (.ok v a1 n1)) (hl:n1.length<60):PE T .fac d a ns (.ok n1.length a1 (n1++[(3,[],0,[v])])):=by
 obtain ⟨n0,k⟩:=k
 refine ⟨n0+1,λn hn=>?_⟩
 obtain ⟨n,rfl⟩:∃ m,n=m+1:=⟨n-1,qo⟩
 rw [prs,if_neg qo,if_pos h,k n qo]
 exact emit_ok hl
theorem PE.more {s:List UInt8} {l:List Int} (h0:¬ (l=[]/\pk T a=[41])) (h3:l.length≠3) (k:PE T (.bin true) d a ns (.ok v a1 n1)) (hc:pk T a1=[44]) (k2:PE T (.args s (l++[v])) d (a1+1) n1 r):PE T (.args s l) d a ns r:=by
 obtain ⟨n0,k⟩:=k
 obtain ⟨m0,k2⟩:=k2
 refine ⟨n0+m0+1,λn hn=>?_⟩
 obtain ⟨n,rfl⟩:∃ m,n=m+1:=⟨n-1,qo⟩
 rw [prs,if_neg h0,if_neg h3,k n qo]
 show (if pk T a1=[44] then _ else _)=_
 rw [if_pos hc,k2 n qo]
theorem PE.last {s:List UInt8} {l:List Int} (h0:¬ (l=[]/\pk T a=[41])) (h3:l.length≠3) (k:PE T (.bin true) d a ns (.ok v a1 n1)) (hc:pk T a1=[41]) (hl:n1.length<60):PE T (.args s l) d a ns (.ok n1.length (a1+1) (n1++[(8,s,0,l++[v])])):=by
 obtain ⟨n0,k⟩:=k
 refine ⟨n0+1,λn hn=>?_⟩
 obtain ⟨n,rfl⟩:∃ m,n=m+1:=⟨n-1,qo⟩
 rw [prs,if_neg h0,if_neg h3,k n qo]
 show (if pk T a1=[44] then _ else _)=_
 rw [if_neg (by rw [hc];decide),if_pos hc,emit_ok hl]
theorem PE.bin {add:Bool} (k:PE T (opd add) d a ns (.ok v a1 n1)) (k2:PE T (.loop add v) d a1 n1 r):PE T (.bin add) d a ns r:=by
 obtain ⟨n0,k⟩:=k
 obtain ⟨m0,k2⟩:=k2
 refine ⟨n0+m0+1,λn hn=>?_⟩
 obtain ⟨n,rfl⟩:∃ m,n=m+1:=⟨n-1,qo⟩
 rw [prs,k n qo]
 exact k2 n qo
theorem PE.go {add:Bool} {b:Int} (h:opS add (pk T a)≠0) (k:PE T (opd add) d (a+1) ns (.ok b a1 n1)) (hl:n1.length<60) (k2:PE T (.loop add n1.length) d a1 (n1++[(opS add (pk T a),[],0,[v,b])]) r):PE T (.loop add v) d a ns r:=by
 obtain ⟨n0,k⟩:=k
 obtain ⟨m0,k2⟩:=k2
 refine ⟨n0+m0+1,λn hn=>?_⟩
 obtain ⟨n,rfl⟩:∃ m,n=m+1:=⟨n-1,qo⟩
 rw [prs,if_neg h,k n qo]
 show (match emit T _ a1 n1 with | .ok u a2 n2=>prs T n (.loop add u) d a2 n2 | .bad o=>.bad o | .out=>.out)=r
 rw [emit_ok hl]
 exact k2 n qo
end
theorem prs_mono {T:List Zaq}:∀ (n:Nat) (m:PM) (d a:Nat) (ns:List Zac),prs T n m d a ns ≠ .out->prs T (n+1) m d a ns=prs T n m d a ns:=by
 intro n
 induction n with
 | zero=>intro m d a ns h;exact absurd rfl h
 | succ n ih =>
  intro m d a ns h
  match m with
  | .bin add =>
   rw [prs] at h
   show (match prs T (n+1) (opd add) d a ns with | .ok v a1 n1=>prs T (n+1) (.loop add v) d a1 n1 | .bad o=>.bad o | .out=>.out)=(match prs T n (opd add) d a ns with | .ok v a1 n1=>prs T n (.loop add v) d a1 n1 | .bad o=>.bad o | .out=>.out)
   cases hr:prs T n (opd add) d a ns with
   | out=>rw [hr] at h;exact absurd rfl h
   | bad o=>rw [ih _ _ _ _ (by rw [hr];simp),hr]
   | ok v a1 n1 =>
    rw [hr] at h
    rw [ih _ _ _ _ (by rw [hr];simp),hr]
    exact ih _ _ _ _ h
  | .loop add v =>
   rw [prs] at h
   show (if opS add (pk T a)=0 then _ else _)=(if opS add (pk T a)=0 then _ else _)
   by_cases h0:opS add (pk T a)=0
   ·rw [if_pos h0,if_pos h0]
   ·rw [if_neg h0] at h
    rw [if_neg h0,if_neg h0]
    cases hr:prs T n (opd add) d (a+1) ns with
    | out=>rw [hr] at h;exact absurd rfl h
    | bad o=>rw [ih _ _ _ _ (by rw [hr];simp),hr]
    | ok b a1 n1 =>
     rw [hr] at h
     rw [ih _ _ _ _ (by rw [hr];simp),hr]
     show (match emit T _ a1 n1 with | .ok u a2 n2=>prs T (n+1) (.loop add u) d a2 n2 | .bad o=>.bad o | .out=>.out)=(match emit T _ a1 n1 with | .ok u a2 n2=>prs T n (.loop add u) d a2 n2 | .bad o=>.bad o | .out=>.out)
     have h':(match emit T (opS add (pk T a),[],0,[v,b]) a1 n1 with | .ok u a2 n2=>prs T n (.loop add u) d a2 n2 | .bad o=>.bad o | .out=>.out) ≠ .out:=h
     cases he:emit T (opS add (pk T a),[],0,[v,b]) a1 n1 with
     | out=>rfl
     | bad o=>rfl
     | ok u a2 n2=>rw [he] at h';exact ih _ _ _ _ h'
  | .fac =>
   rw [prs] at h
   show (if 64<d then _ else _)=(if 64<d then _ else _)
   by_cases c1:64<d
   ·rw [if_pos c1,if_pos c1]
   rw [if_neg c1] at h
   rw [if_neg c1,if_neg c1]
   by_cases c2:pk T a=[45]
   ·rw [if_pos c2] at h
    rw [if_pos c2,if_pos c2]
    cases hr:prs T n .fac (d+1) (a+1) ns with
    | out=>rw [hr] at h;exact absurd rfl h
    | bad o=>rw [ih _ _ _ _ (by rw [hr];simp),hr]
    | ok b a1 n1=>rw [ih _ _ _ _ (by rw [hr];simp),hr]
   rw [if_neg c2] at h
   rw [if_neg c2,if_neg c2]
   by_cases c3:pk T a=[40]
   ·rw [if_pos c3] at h
    rw [if_pos c3,if_pos c3]
    cases hr:prs T n (.bin true) (d+1) (a+1) ns with
    | out=>rw [hr] at h;exact absurd rfl h
    | bad o=>rw [ih _ _ _ _ (by rw [hr];simp),hr]
    | ok b a1 n1=>rw [ih _ _ _ _ (by rw [hr];simp),hr]
   rw [if_neg c3] at h
   rw [if_neg c3,if_neg c3]
   by_cases c4:kd T a=1
   ·rw [if_pos c4,if_pos c4]
   rw [if_neg c4] at h
   rw [if_neg c4,if_neg c4]
   by_cases c5:kd T a=2
   ·rw [if_pos c5] at h
    rw [if_pos c5,if_pos c5]
    by_cases c6:pk T (a+1)=[40]
    ·rw [if_pos c6] at h
     rw [if_pos c6,if_pos c6]
     exact ih _ _ _ _ h
    ·rw [if_neg c6,if_neg c6]
   ·rw [if_neg c5,if_neg c5]
  | .args name l =>
   rw [prs] at h
   show (if l=[]/\pk T a=[41] then _ else _)=(if l=[]/\pk T a=[41] then _ else _)
   by_cases c1:l=[]/\pk T a=[41]
   ·rw [if_pos c1,if_pos c1]
   rw [if_neg c1] at h
   rw [if_neg c1,if_neg c1]
   by_cases c2:l.length=3
   ·rw [if_pos c2,if_pos c2]
   rw [if_neg c2] at h
   rw [if_neg c2,if_neg c2]
   cases hr:prs T n (.bin true) d a ns with
   | out=>rw [hr] at h;exact absurd rfl h
   | bad o=>rw [ih _ _ _ _ (by rw [hr];simp),hr]
   | ok v a1 n1 =>
    rw [hr] at h
    rw [ih _ _ _ _ (by rw [hr];simp),hr]
    show (if pk T a1=[44] then _ else _)=(if pk T a1=[44] then _ else _)
    have h':(if pk T a1=[44] then prs T n (.args name (l++[v])) d (a1+1) n1 else if pk T a1=[41] then emit T (8,name,0,l++[v]) (a1+1) n1 else .bad (of_ T a1)) ≠ .out:=h
    by_cases c3:pk T a1=[44]
    ·rw [if_pos c3] at h'
     rw [if_pos c3,if_pos c3]
     exact ih _ _ _ _ h'
    ·rw [if_neg c3,if_neg c3]
theorem prs_le {T:List Zaq} {m:PM} {d a:Nat} {ns:List Zac} {n:Nat} (h:prs T n m d a ns ≠ .out):∀ k,prs T (n+k) m d a ns=prs T n m d a ns
 | 0=>rfl
 | k+1=>by
  have ih:=prs_le h k
  rw [<- Nat.add_assoc,prs_mono _ _ _ _ _ (by rw [ih];exact h),ih]
theorem PE.at_ {T:List Zaq} {m:PM} {d a:Nat} {ns:List Zac} {r:PR} {N:Nat} (k:PE T m d a ns r) (h:prs T N m d a ns ≠ .out):prs T N m d a ns=r:=by
 obtain ⟨n0,k⟩:=k
 rw [<- prs_le h n0]
 exact k _ qo
open Go.RowKit Go.Lib
def NoB (b:UInt8) (l:List UInt8):Prop:=∀ x∈l,x≠b
theorem NoB.app {b:UInt8} {l m:List UInt8} (h:NoB b l) (g:NoB b m):NoB b (l++m):=λx hx=>(List.mem_append.1 hx).elim (h x) (g x)
theorem NoB.nil (b:UInt8):NoB b []:=λx hx=>by cases hx
def OffN (b:UInt8):Prop:=b≠45/\b≠44/\¬ (48<=b.toNat/\b.toNat<=57)
theorem NoB.fmtI {b:UInt8} (hb:b≠45/\¬ (48<=b.toNat/\b.toNat<=57)) (n:Int):NoB b (fmtI n):=by
 intro x hx e
 subst e
 by_cases hn:Zcg n
 ·rw [fmtI_in hn] at hx
  rcases itoa_mem hx with h|h
  ·exact hb.1 h
  ·exact hb.2 h
 ·rw [fmtI_out hn] at hx;cases hx
theorem NoB.join {b s:UInt8} (hs:s≠b) {ls:List (List UInt8)} (h:∀ l∈ls,NoB b l):NoB b (join ls [s]):=by
 cases ls with
 | nil=>exact NoB.nil b
 | cons a t =>
  rw [join_cons]
  refine (h a qs).app ?_
  have:∀ r:List (List UInt8),(∀ l∈r,NoB b l)->NoB b (joinTail [s] r):=by
   intro r
   induction r with
   | nil=>intro _ x hx;cases hx
   | cons c q ih =>
    intro hr
    have e:joinTail [s] (c::q)=[s]++(c++joinTail [s] q):=by simp [joinTail]
    rw [e]
    exact NoB.app (λx hx=>by simp at hx;subst hx;exact hs) ((hr c qs).app (ih (λl hl=>hr l (by simp [hl]))))
  exact this t (λl hl=>h l (by simp [hl]))
theorem NoB.fmtL {b:UInt8} (hb:OffN b) (l:List Int):NoB b (fmtL l):=NoB.join hb.2.1.symm (λx hx=>by
 obtain ⟨n,_,rfl⟩:=List.mem_map.1 hx
 exact NoB.fmtI ⟨hb.1,hb.2.2⟩ n)
theorem split_joinB {b:UInt8}:∀ (r:List (List UInt8)) (u:List UInt8),NoB b u->(∀ p∈r,NoB b p)->splitB b (u++joinTail [b] r)=u::r
 | [],u,hu,_=>by rw [show joinTail [b] []=[] from rfl,List.append_nil];exact Zdr hu
 | x::r,u,hu,hr=>by
  have e:joinTail [b] (x::r)=b::(x++joinTail [b] r):=by simp [joinTail]
  rw [e,splitB_cut _ hu,split_joinB r x (hr x qs) (λp hp=>hr p (by simp [hp]))]
theorem Zd1 {b:UInt8} {ls:List (List UInt8)} (hne:ls≠[]) (h:∀ l∈ls,NoB b l):splitB b (join ls [b])=ls:=by
 cases ls with
 | nil=>exact absurd rfl hne
 | cons a t=>rw [join_cons];exact split_joinB t a (h a qs) (λp hp=>h p (by simp [hp]))
theorem Zcm (b:UInt8):∀ l:List UInt8,join (splitB b l) [b]=l/\(∀ p∈splitB b l,NoB b p)/\splitB b l≠[]
 | []=>⟨rfl,(λp hp=>by simp [splitB] at hp;subst hp;exact NoB.nil b),by simp [splitB]⟩
 | x::l=>by
  obtain ⟨h1,h2,h3⟩:=Zcm b l
  unfold splitB
  by_cases hx:x=b
  ·rw [if_pos hx]
   subst hx
   refine ⟨?_,λp hp=>?_,qs⟩
   ·cases hs:splitB x l with
    | nil=>exact absurd hs h3
    | cons a t=>rw [hs] at h1;rw [join_cons] at h1 ⊢;simp [joinTail] at h1 ⊢;rw [<- h1]
   ·rcases List.mem_cons.1 hp with rfl|hp
    ·exact NoB.nil _
    ·exact h2 p hp
  ·rw [if_neg hx]
   cases hs:splitB b l with
   | nil=>exact absurd hs h3
   | cons a t =>
    rw [hs] at h1 h2
    refine ⟨?_,λp hp=>?_,qs⟩
    ·rw [join_cons] at h1 ⊢;simp [<- h1]
    ·rcases List.mem_cons.1 hp with rfl|hp
     ·intro y hy
      rcases List.mem_cons.1 hy with rfl|hy
      ·exact hx
      ·exact h2 a qs y hy
     ·exact h2 p (by simp [hp])
theorem indexByte_no {c:UInt8} {u:List UInt8} (h:NoB c u):indexByte u c = -1:=by
 rcases (show indexByte u c = -1∨0<=indexByte u c by have:=indexByte_ge u c;omega) with h1|h1
 ·exact h1
 ·obtain ⟨o,ho⟩:∃ o:Nat,indexByte u c=o:=⟨(indexByte u c).toNat,qo⟩
  have:=(indexByte_some ho).1
  exact absurd rfl (h c (List.mem_of_getElem? this))
theorem indexByte_at {c:UInt8} {u v:List UInt8} (h:NoB c u):indexByte (u++c::v) c=u.length:=by
 have hat:(u++c::v)[u.length]? = some c:=qs
 rcases (show indexByte (u++c::v) c = -1∨0<=indexByte (u++c::v) c by have:=indexByte_ge (u++c::v) c;omega) with h1|h1
 ·exact absurd hat (indexByte_none h1 _)
 ·obtain ⟨o,ho⟩:∃ o:Nat,indexByte (u++c::v) c=o:=⟨(indexByte (u++c::v) c).toNat,qo⟩
  obtain ⟨h2,h3⟩:=indexByte_some ho
  rcases Nat.lt_trichotomy o u.length with h4|h4|h4
  ·rw [List.getElem?_append_left h4] at h2
   exact absurd rfl (h c (List.mem_of_getElem? h2))
  ·rw [ho,h4]
  ·exact absurd hat (h3 _ h4)
theorem cut_no {c:UInt8} {u:List UInt8} (h:NoB c u):cut u [c]=(u,[],false):=by
 unfold cut
 rw [index_one,indexByte_no h]
 rfl
theorem cut_at {c:UInt8} {u v:List UInt8} (h:NoB c u):cut (u++c::v) [c]=(u,v,true):=by
 unfold cut
 rw [index_one,indexByte_at h,if_pos qo]
 simp
theorem cut_split (c:UInt8) (l:List UInt8):(NoB c l/\splitB c l=[l]/\cut l [c]=(l,[],false))∨(∃ u v,NoB c u/\l=u++c::v/\splitB c l=u::splitB c v/\cut l [c]=(u,v,true)):=by
 by_cases h:∀ x∈l,x≠c
 ·exact .inl ⟨h,Zdr h,cut_no h⟩
 ·right
  have hm:c∈l:=by
   simp only [Classical.not_forall,Classical.not_not] at h
   obtain ⟨x,hx,rfl⟩:=h
   exact hx
  obtain ⟨u,v,hl,hu⟩:∃ u v,l=u++c::v/\NoB c u:=by
   clear h
   induction l with
   | nil=>cases hm
   | cons x l ih =>
    by_cases hx:x=c
    ·subst hx;exact ⟨[],l,rfl,NoB.nil _⟩
    ·obtain ⟨u,v,rfl,hu⟩:=ih ((List.mem_cons.1 hm).resolve_left (λe=>hx e.symm))
     exact ⟨x::u,v,rfl,λy hy=>by rcases List.mem_cons.1 hy with rfl|hy;exact hx;exact hu y hy⟩
  subst hl
  exact ⟨u,v,hu,rfl,splitB_cut v hu,cut_at hu⟩
theorem parseTo_some:∀ {ls:List (List UInt8)} {l:List Int},parseTo ls=some l->l.map fmtI=ls
 | [],l,h=>by simp [parseTo] at h;subst h;rfl
 | x::t,l,h=>by
  simp only [parseTo] at h
  cases hx:parseI x with
  | none=>rw [hx] at h;cases h
  | some v =>
   rw [hx] at h
   simp only [Option.bind_some] at h
   cases ht:parseTo t with
   | none=>rw [ht] at h;cases h
   | some u =>
    rw [ht] at h
    obtain rfl:=Option.some.inj h
    rw [List.map_cons,parseTo_some ht,(Zdt hx).2.2]
theorem Zf1 {w:List UInt8} {l:List Int} (h:Za2 w=some l) (hl:l≠[]):fmtL l=w:=by
 unfold Za2 at h
 split at h
 ·obtain rfl:=Option.some.inj h;exact absurd rfl hl
 ·unfold fmtL
  rw [parseTo_some h]
  exact (Zcm 44 w).1
theorem fmtL_ne45 {l:List Int} (hv:∀ x∈l,Zcg x) (hl:l≠[]):fmtL l≠[45]:=by
 intro hc
 have h1:splitB 44 (fmtL l)=l.map fmtI:=Zd1 (by simpa using hl) (λx hx=>by obtain ⟨n,_,rfl⟩:=List.mem_map.1 hx;exact NoB.fmtI qd n)
 rw [hc] at h1
 have h2:=parseTo_map hv
 rw [<- h1] at h2
 have h3:parseTo (splitB 44 [45])=none:=by
  rw [show splitB 44 [45]=[[45]] from rfl]
  unfold parseTo
  have:parseI [45]=none:=qd
  rw [this];rfl
 rw [h3] at h2
 cases h2
theorem parseL_fmtL {l:List Int} (hv:∀ x∈l,Zcg x) (hl:l≠[]):Za2 (fmtL l)=some l:=by
 unfold Za2
 rw [if_neg (fmtL_ne45 hv hl)]
 unfold fmtL
 rw [Zd1 (by simpa using hl) (λx hx=>by obtain ⟨n,_,rfl⟩:=List.mem_map.1 hx;exact NoB.fmtI qd n)]
 exact parseTo_map hv
abbrev EVec:=Int×Int×Int
def Zec (l:List UInt8):Option EVec :=
 match Za2 l with
 | some [x,y,z]=>if Zav x y z then some (x,y,z) else none
 | _=>none
def zV:EVec:=(0,0,0)
def ptOf (a b c d:EVec):Za1
 | 0=>a.1|1=>a.2.1|2=>a.2.2|3=>b.1|4=>b.2.1|5=>b.2.2|6=>c.1|7=>c.2.1|8=>c.2.2|9=>d.1|10=>d.2.1|11=>d.2.2|_=>0
def zPt:Za1:=ptOf zV zV zV zV
def parPt (l:List UInt8):Option Za1 :=
 match splitB 32 l with
 | [a,b,c,d] =>
  match Zec a,Zec b,Zec c,Zec d with
  | some a,some b,some c,some d=>some (ptOf a b c d)
  | _,_,_,_=>none
 | _=>none
theorem Zda {l:List UInt8} {v:EVec} (h:Zec l=some v):Zav v.1 v.2.1 v.2.2=true/\vecT v.1 v.2.1 v.2.2=l:=by
 unfold Zec at h
 split at h
 ·rename_i x y z hp
  split at h
  ·rename_i hv
   obtain rfl:=Option.some.inj h
   exact ⟨hv,Zf1 hp qs⟩
  ·cases h
 ·cases h
theorem inNum_cl2 {x:Int} (h:x=cl x):Zcg x:=by have:=cl_rng x;unfold Zcg;omega
theorem validV_num2 {x y z:Int} (h:Zav x y z=true):∀ u∈[x,y,z],Zcg u:=by
 unfold Zav at h
 simp only [Bool.and_eq_true,decide_eq_true_eq] at h
 intro u hu
 simp only [List.mem_cons,List.not_mem_nil,or_false] at hu
 rcases hu with rfl|rfl|rfl
 ·exact inNum_cl2 h.1
 ·exact inNum_cl2 h.2.1
 ·exact inNum_cl2 h.2.2
theorem parV_vecT {v:EVec} (h:Zav v.1 v.2.1 v.2.2=true):Zec (vecT v.1 v.2.1 v.2.2)=some v:=by
 unfold Zec vecT
 rw [parseL_fmtL (validV_num2 h) qs]
 simp only [h,if_true]
theorem validV_zero:Zav 0 0 0=true:=qd
def vOf (o:Option (List UInt8)):EVec:=(o.bind Zec).getD zV
theorem Zd2 (o:Option (List UInt8)):Zav (vOf o).1 (vOf o).2.1 (vOf o).2.2=true:=by
 unfold vOf
 cases o with
 | none=>exact validV_zero
 | some l =>
  simp only [Option.bind_some]
  cases h:Zec l with
  | none=>exact validV_zero
  | some v=>exact (Zda h).1
def Zfm (ws:List (List UInt8)):Za1:=ptOf (vOf ws[0]?) (vOf ws[1]?) (vOf ws[2]?) (vOf ws[3]?)
theorem patL_ptOf (a b c d:EVec):patL (ptOf a b c d)=[vecT a.1 a.2.1 a.2.2,vecT b.1 b.2.1 b.2.2,vecT c.1 c.2.1 c.2.2,vecT d.1 d.2.1 d.2.2]:=rfl
theorem validPt_ptOf {a b c d:EVec} (ha:Zav a.1 a.2.1 a.2.2=true) (hb:Zav b.1 b.2.1 b.2.2=true) (hc:Zav c.1 c.2.1 c.2.2=true) (hd:Zav d.1 d.2.1 d.2.2=true):Za8 (ptOf a b c d)=true:=by
 unfold Za8
 simp only [ptOf,ha,hb,hc,hd,Bool.and_self]
theorem rawPt_valid (ws:List (List UInt8)):Za8 (Zfm ws)=true:=validPt_ptOf (Zd2 _) (Zd2 _) (Zd2 _) (Zd2 _)
theorem patL_no (p:Za1):∀ l∈patL p,NoB 32 l:=by
 intro l hl
 simp only [patL,List.mem_cons,List.not_mem_nil,or_false] at hl
 rcases hl with rfl|rfl|rfl|rfl<;>exact NoB.fmtL (by unfold OffN;decide) _
theorem patT_split (p:Za1):splitB 32 (Zeb p)=patL p:=Zd1 (by simp [patL]) (patL_no p)
theorem parPt_some {s:List UInt8} {p:Za1} (h:parPt s=some p):Zfm (splitB 32 s)=p/\Zeb p=s/\Za8 p=true:=by
 unfold parPt at h
 split at h
 ·rename_i a b c d hs
  split at h
  ·rename_i va vb vc vd ha hb hc hd
   obtain rfl:=Option.some.inj h
   refine ⟨?_, ?_,validPt_ptOf (Zda ha).1 (Zda hb).1 (Zda hc).1 (Zda hd).1⟩
   ·rw [hs];simp [Zfm,vOf,ha,hb,hc,hd]
   ·unfold Zeb
    rw [patL_ptOf,(Zda ha).2,(Zda hb).2,(Zda hc).2,(Zda hd).2,<- hs]
    exact (Zcm 32 s).1
  ·cases h
 ·cases h
theorem parPt_patT {p:Za1} {a b c d:EVec} (hp:p=ptOf a b c d) (ha:Zav a.1 a.2.1 a.2.2=true) (hb:Zav b.1 b.2.1 b.2.2=true) (hc:Zav c.1 c.2.1 c.2.2=true) (hd:Zav d.1 d.2.1 d.2.2=true):parPt (Zeb p)=some p:=by
 subst hp
 unfold parPt
 rw [patT_split,patL_ptOf]
 simp only [parV_vecT ha,parV_vecT hb,parV_vecT hc,parV_vecT hd]
theorem rawPt_hit {s:List UInt8} (h:Zeb (Zfm (splitB 32 s))=s):parPt s=some (Zfm (splitB 32 s)):=by
 conv=>lhs;rw [<- h]
 exact parPt_patT rfl (Zd2 _) (Zd2 _) (Zd2 _) (Zd2 _)
theorem patT_ne (p:Za1):Zeb p≠[]:=by
 intro h
 have:=patT_split p
 rw [h] at this
 simp [splitB,patL] at this
abbrev ECam:=Int×Int×Int×Int×Bool×Int×Int
def parCam (l:List UInt8):Option ECam :=
 match Za2 l with
 | some [a,b,c,d,e,f,g]=>if Zaz a b c d f g&&decide (camT a b c d (e==1) f g=l) then some (a,b,c,d,e==1,f,g) else none
 | _=>none
def parTex (l:List UInt8):Option (Int×List Int) :=
 match parseI (cut l [58]).1,Za2 (cut l [58]).2.1 with
 | some log,some tex=>if Zak log tex then some (log,tex) else none
 | _,_=>none
def rawLog (l:List UInt8):Int:=(parseI ((splitB 58 l++[[]]).getD 0 [])).getD 0
def rawTex (l:List UInt8):List Int:=(Za2 ((splitB 58 l++[[]]).getD 1 [])).getD []
theorem tex_ne {log:Int} {l:List Int} (h:Zak log l=true):l≠[]/\Zcg log/\∀ x∈l,Zcg x:=by
 obtain ⟨h1,h2,h3,h4⟩:=Zd8 h
 have:=Zbk h1
 refine ⟨by intro e;subst e;simp at h2,by unfold Zcg;omega,λx hx=>?_⟩
 unfold allIn at h4
 rw [List.all_eq_true] at h4
 have:=Zbk (h4 x hx)
 unfold Zcg;omega
theorem parseL_nil:Za2 []=none:=by
 unfold Za2
 rw [if_neg qd]
 rfl
theorem parTex_some {l:List UInt8} {log:Int} {tex:List Int} (h:parTex l=some (log,tex)):Zak log tex=true/\texT log tex=l/\rawLog l=log/\rawTex l=tex:=by
 unfold parTex at h
 split at h
 ·rename_i log' tex' h1 h2
  split at h
  ·rename_i hv
   obtain ⟨rfl,rfl⟩:log'=log/\tex'=tex:=by simpa using h
   obtain ⟨n1,n2,n3⟩:=tex_ne hv
   rcases cut_split 58 l with ⟨a1,a2,a3⟩|⟨u,v,a1,a2,a3,a4⟩
   ·rw [a3] at h2
    rw [parseL_nil] at h2;cases h2
   ·rw [a4] at h1 h2
    (try dsimp only at h1 h2)
    have e1:=(Zdt h1).2.2
    have e2:=Zf1 h2 n1
    have e3:splitB 58 v=[v]:=Zdr (by rw [<- e2];exact NoB.fmtL (by unfold OffN;decide) _)
    refine ⟨hv, ?_, ?_, ?_⟩
    ·unfold texT;rw [e1,e2,a2];simp
    ·unfold rawLog;rw [a3];simp [h1]
    ·unfold rawTex;rw [a3,e3];simp [h2]
  ·cases h
 ·cases h
theorem parTex_texT {log:Int} {tex:List Int} (hv:Zak log tex=true):parTex (texT log tex)=some (log,tex):=by
 obtain ⟨n1,n2,n3⟩:=tex_ne hv
 have hc:cut (texT log tex) [58]=(fmtI log,fmtL tex,true):=by
  unfold texT
  rw [show fmtI log++[58]++fmtL tex=fmtI log++58::fmtL tex by simp]
  exact cut_at (NoB.fmtI qd _)
 unfold parTex
 rw [hc]
 simp only [parseI_fmtI n2,parseL_fmtL n3 n1,hv,if_true]
theorem texT_ne (log:Int) (l:List Int):texT log l≠[]:=by unfold texT;simp
theorem rawTex_hit {l:List UInt8} (hv:Zak (rawLog l) (rawTex l)=true) (h:texT (rawLog l) (rawTex l)=l):parTex l=some (rawLog l,rawTex l):=by
 have:=parTex_texT hv
 rwa [h] at this
def parSurf:List (List UInt8)->Zdz
 | [a,b,c,d,e,f,g,h,i,j]=>((parPt (join [c,d,e,f] [32])).getD zPt,(parPt (join [g,h,i,j] [32])).getD zPt,(parseI a).getD 0,(parseI b).getD 0)
 | _=>(zPt,zPt,0,0)
def Zdp:EScene:=⟨0,0,0,0,false,0,0,0,[],[],[],0⟩
def setCam (s:EScene) (o:Option ECam):EScene:=match o with
 | some (a,b,c,d,e,f,g)=>{ s with a:=a,b:=b,c:=c,d:=d,e:=e,f:=f,g:=g }
 | none=>{ s with a:=0,b:=0,c:=0,d:=0,e:=false,f:=0,g:=0 }
def setTex (s:EScene) (o:Option (Int×List Int)):EScene:=match o with
 | some (log,tex)=>{ s with log:=log,tex:=tex }
 | none=>{ s with log:=0,tex:=[] }
def wCam:List UInt8:=[99,97,109,101,114,97]
def wTex:List UInt8:=[116,101,120,116,117,114,101]
def wSide:List UInt8:=[115,105,100,101]
def wShad:List UInt8:=[115,104,97,100,101,114]
def wSurf:List UInt8:=[115,117,114,102,97,99,101]
def updS (s:EScene) (line:List UInt8):EScene :=
 let w:=splitB 32 line++[[]]
 if w.getD 0 []=wCam then setCam s (parCam (w.getD 1 []))
 else if w.getD 0 []=wTex then setTex s (parTex (w.getD 1 []))
 else if w.getD 0 []=wSide then { s with side:=(parseI (w.getD 1 [])).getD 0 }
 else if w.getD 0 []=wShad then { s with ps:=s.ps++[(parF (join (w.drop 1) [32])).1] }
 else if w.getD 0 []=wSurf then { s with ss:=s.ss++[parSurf (splitB 32 line).tail] }
 else s
def updI (s:EScene) (line:List UInt8):EScene :=
 let c:=cut line [32]
 if c.1=wCam then setCam s (parCam c.2.1)
 else if c.1=wTex then setTex s (parTex c.2.1)
 else if c.1=wSide then { s with side:=(parseI c.2.1).getD 0 }
 else if c.1=wShad then { s with ps:=s.ps++[(parF c.2.1).1] }
 else if c.1=wSurf then { s with ss:=s.ss++[parSurf (splitB 32 c.2.1)] }
 else s
def Sim (T T':List Zaq):Prop:=∀ i,tkOf (tk T i)=tkOf (tk T' i)
theorem Sim.pk {T T':List Zaq} (h:Sim T T') (i:Nat):pk T i=pk T' i/\kd T i=kd T' i/\tx T i=tx T' i/\nm T i=nm T' i:=by
 have:=h i
 unfold tkOf at this
 simp only [Prod.mk.injEq] at this
 unfold Go.Proofs.YticdknjoapdmeaaGreatDoor.pk kd tx nm
 rw [this.1,this.2.1,this.2.2]
 simp
def PSim:PR->PR->Prop
 | .ok v a n,r=>r=.ok v a n
 | .bad _,r=>∃ o,r=.bad o
 | .out,r=>r=.out
theorem PSim.refl (r:PR):PSim r r:=by cases r<;>simp [PSim]
theorem PSim.emit {T T':List Zaq} (x:Zac) (a:Nat) (ns:List Zac):PSim (emit T x a ns) (emit T' x a ns):=by
 unfold Go.Proofs.YticdknjoapdmeaaGreatDoor.emit
 split
 ·exact ⟨_,rfl⟩
 ·exact PSim.refl _
abbrev prB (r:PR) (f:Int->Nat->List Zac->PR):PR:=match r with
 | .ok v a n=>f v a n
 | .bad o=>.bad o
 | .out=>.out
theorem PSim.bind {r r':PR} {f g:Int->Nat->List Zac->PR} (h:PSim r r') (hf:∀ v a n,PSim (f v a n) (g v a n)):PSim (prB r f) (prB r' g):=by
 cases r with
 | ok v a n=>obtain rfl:=h;exact hf v a n
 | bad o=>obtain ⟨o',rfl⟩:=h;exact ⟨_,rfl⟩
 | out=>obtain rfl:=h;exact rfl
theorem prs_sim {T T':List Zaq} (h:Sim T T'):∀ (n:Nat) (m:PM) (d a:Nat) (ns:List Zac),PSim (prs T n m d a ns) (prs T' n m d a ns):=by
 intro n
 induction n with
 | zero=>intro m d a ns;exact rfl
 | succ n ih =>
  intro m d a ns
  obtain ⟨p0,p1,p2,p3⟩:=h.pk a
  match m with
  | .bin add =>
   rw [prs,prs]
   exact PSim.bind (ih _ _ _ _) (λv a1 n1=>ih _ _ _ _)
  | .loop add v =>
   rw [prs,prs,p0]
   split
   ·exact PSim.refl _
   ·exact PSim.bind (ih _ _ _ _) (λb a1 n1=>PSim.bind (PSim.emit _ _ _) (λu a2 n2=>ih _ _ _ _))
  | .fac =>
   rw [prs,prs,p0,p1,p2,p3,(h.pk (a+1)).1]
   split
   ·exact ⟨_,rfl⟩
   split
   ·exact PSim.bind (ih _ _ _ _) (λb a1 n1=>PSim.emit _ _ _)
   split
   ·refine PSim.bind (ih _ _ _ _) (λb a1 n1=>?_)
    rw [(h.pk a1).1]
    split
    ·exact PSim.refl _
    ·exact ⟨_,rfl⟩
   split
   ·exact PSim.emit _ _ _
   split
   ·split
    ·exact ih _ _ _ _
    ·exact PSim.emit _ _ _
   ·exact ⟨_,rfl⟩
  | .args name l =>
   rw [prs,prs,p0]
   split
   ·exact PSim.emit _ _ _
   split
   ·exact ⟨_,rfl⟩
   refine PSim.bind (ih _ _ _ _) (λb a1 n1=>?_)
   rw [(h.pk a1).1]
   split
   ·exact ih _ _ _ _
   split
   ·exact PSim.emit _ _ _
   ·exact ⟨_,rfl⟩
def ASim:Option (Except Int Zae)->Option (Except Int Zae)->Prop
 | some (.ok p),r=>r=some (.ok p)
 | some (.error _),r=>∃ o,r=some (.error o)
 | none,r=>r=none
theorem asg_sim {T T':List Zaq} (h:Sim T T') (N:Nat):∀ (n a:Nat) (ns:List Zac) (l:List Zaa),ASim (asg T N n a ns l) (asg T' N n a ns l):=by
 intro n
 induction n with
 | zero=>intro a ns l;exact rfl
 | succ n ih =>
  intro a ns l
  obtain ⟨p0,p1,p2,p3⟩:=h.pk a
  rw [asg,asg,p1,(h.pk (a+1)).1,p2]
  split
  ·exact rfl
  split
  ·exact ⟨_,rfl⟩
  split
  ·exact ⟨_,rfl⟩
  have:=prs_sim h N (.bin true) 1 (a+2) ns
  cases hr:prs T N (.bin true) 1 (a+2) ns with
  | ok v a1 n1 =>
   rw [hr] at this
   have e:prs T' N (.bin true) 1 (a+2) ns=.ok v a1 n1:=this
   rw [e]
   show ASim (if pk T a1=[59] then _ else _) (if pk T' a1=[59] then _ else _)
   rw [(h.pk a1).1]
   split
   ·exact ih _ _ _
   ·exact ⟨_,rfl⟩
  | bad o =>
   rw [hr] at this
   obtain ⟨o',e⟩:=this
   rw [e]
   exact ⟨_,rfl⟩
  | out =>
   rw [hr] at this
   have e:prs T' N (.bin true) 1 (a+2) ns=.out:=this
   rw [e]
   exact rfl
theorem spanN_sp {f:UInt8->Bool} (hf:f 32=false):∀ l:List UInt8,Zba f (l++[32])=Zba f l
 | []=>by simp [Zba,hf]
 | b::l=>by
  rw [List.cons_append,Zba,Zba,spanN_sp hf l]
theorem at_sp {l:List UInt8} {d:Nat} (hd:d<=l.length) (c:UInt8) (hc:c≠32):(l++[32])[d]? = some c↔l[d]? = some c:=by
 rcases Nat.lt_or_ge d l.length with h|h
 ·rw [List.getElem?_append_left h]
 ·have e:d=l.length:=by omega
  subst e
  simp only [List.getElem?_append_right (Nat.le_refl _),Nat.sub_self,List.getElem?_cons_zero,Option.some.injEq,List.getElem?_eq_none (Nat.le_refl _)]
  exact ⟨λe=>absurd e.symm hc,λe=>by cases e⟩
theorem numTok_sp (l:List UInt8):numTok (l++[32])=numTok l:=by
 have hd:=Zey isDg l
 unfold numTok
 rw [spanN_sp qd l]
 dsimp only
 split
 ·rfl
 by_cases h46:l[Zba isDg l]? = some 46
 ·have hlt:Zba isDg l<l.length:=(List.getElem?_eq_some_iff.1 h46).1
  rw [if_pos h46,if_pos ((at_sp hd 46 qd).2 h46),List.drop_append_of_le_length qo,spanN_sp qd]
  have hp:=Zey isDg (l.drop (Zba isDg l+1))
  rw [List.take_append_of_le_length hd,List.take_append_of_le_length hp]
 ·rw [if_neg h46,if_neg (λh=>h46 ((at_sp hd 46 qd).1 h)),List.take_append_of_le_length hd]
theorem scanTok_sp {l:List UInt8} (hl:l≠[]):Zau (l++[32])=Zau l:=by
 match l,hl with
 | b::l,_ =>
  have h1:=numTok_sp (b::l)
  have h2:=spanN_sp (f:=λc=>isLt c||isDg c) qd (b::l)
  rw [List.cons_append] at h1 h2 ⊢
  unfold Zau
  rw [h1]
  simp only [h2]
theorem tokz_sp {src:List UInt8}:∀ (n a:Nat) (l:List Zaq),a<=src.length->src.length<a+n->tokz (src++[32]) (n+1) a l=tokz src n a l:=by
 intro n
 induction n with
 | zero=>intro a l h1 h2;omega
 | succ n ih =>
  intro a l h1 h2
  rcases Nat.lt_or_ge a src.length with h|h
  ·have hb:=List.getElem?_eq_getElem h
   have hb':(src++[32])[a]? = some src[a]:=by rw [List.getElem?_append_left h,hb]
   have hdr:(src++[32]).drop a=src.drop a++[32]:=List.drop_append_of_le_length qo
   have hne:src.drop a≠[]:=by intro e;have:=congrArg List.length e;simp at this;omega
   cases hs:isSp src[a] with
   | true=>rw [Zck hb' hs,Zck hb hs];exact ih _ _ qo qo
   | false =>
    cases hk:Zau (src.drop a) with
    | none=>rw [Zfw hb' hs (by rw [hdr,scanTok_sp hne,hk]),Zfw hb hs hk]
    | some x =>
     obtain ⟨k,j,v⟩:=x
     have hj:=Zcf hk
     rw [Zex hb' hs (by rw [hdr,scanTok_sp hne,hk]),Zex hb hs hk,hdr,List.take_append_of_le_length hj.2]
     rw [List.length_drop] at hj
     exact ih _ _ qo qo
  ·have e:a=src.length:=by omega
   subst e
   rw [Zd0 (Nat.le_refl _),Zck (b:=32) qs qd,Zd0 qs]
theorem parF_sp {src:List UInt8} (h:src.length<=1999):(parF (src++[32])).1=(parF src).1:=by
 have hz:tokz (src++[32]) (src.length+2) 0 []=tokz src (src.length+1) 0 []:=tokz_sp _ _ _ (Nat.zero_le _) qo
 unfold parF toksF
 have hq:(src++[32]).length+1=src.length+2:=qs
 rw [if_neg (by simp;omega),if_neg qo,hq,hz]
 cases tokz src (src.length+1) 0 [] with
 | error o=>rfl
 | ok r =>
  show (parT (r++[((0:Int),([]:List UInt8),(0:Int),(((src++[32]).length:Nat):Int))])).1=(parT (r++[((0:Int),([]:List UInt8),(0:Int),(src.length:Int))])).1
  have hsim:Sim (r++[((0:Int),([]:List UInt8),(0:Int),(src.length:Int))]) (r++[((0:Int),([]:List UInt8),(0:Int),(((src++[32]).length:Nat):Int))]):=by
   intro i
   unfold tk
   simp only [List.getD_eq_getElem?_getD]
   rcases Nat.lt_trichotomy i r.length with h1|h1|h1
   ·rw [List.getElem?_append_left h1,List.getElem?_append_left h1]
   ·subst h1;simp [tkOf]
   ·rw [List.getElem?_eq_none (by simp;omega),List.getElem?_eq_none (by simp;omega)]
  have hl:Zc6 (r++[((0:Int),([]:List UInt8),(0:Int),(src.length:Int))])=Zc6 (r++[((0:Int),([]:List UInt8),(0:Int),(((src++[32]).length:Nat):Int))]):=by unfold Zc6;simp
  have hl2:(r++[((0:Int),([]:List UInt8),(0:Int),(src.length:Int))]).length=(r++[((0:Int),([]:List UInt8),(0:Int),(((src++[32]).length:Nat):Int))]).length:=qs
  have:=asg_sim hsim (Zc6 (r++[((0:Int),([]:List UInt8),(0:Int),(src.length:Int))])) ((r++[((0:Int),([]:List UInt8),(0:Int),(src.length:Int))]).length+1) 0 [] []
  unfold parT
  rw [<- hl,<- hl2]
  cases ha:asg (r++[((0:Int),([]:List UInt8),(0:Int),(src.length:Int))]) (Zc6 (r++[((0:Int),([]:List UInt8),(0:Int),(src.length:Int))])) ((r++[((0:Int),([]:List UInt8),(0:Int),(src.length:Int))]).length+1) 0 [] [] with
  | none=>rw [ha] at this;have e:=(show _=_ from this);rw [e]
  | some x =>
   rw [ha] at this
   cases x with
   | ok p=>have e:=(show _=_ from this);rw [e]
   | error o=>obtain ⟨o',e⟩:=this;rw [e]
theorem join_snoc_nil {ls:List (List UInt8)} (hne:ls≠[]):join (ls++[[]]) [32]=join ls [32]++[32]:=by
 cases ls with
 | nil=>exact absurd rfl hne
 | cons a t=>rw [List.cons_append,join_cons,join_cons];simp [joinTail]
def LineOk (line:List UInt8):Prop:=((cut line [32]).1=wCam∨(cut line [32]).1=wTex∨(cut line [32]).1=wSide->NoB 32 (cut line [32]).2.1)/\((cut line [32]).1=wShad->(cut line [32]).2.1.length<=1999)
theorem upd_eq {line:List UInt8} (h:LineOk line) (s:EScene):updS s line=updI s line:=by
 obtain ⟨h1,h2⟩:=h
 unfold updS updI
 rcases cut_split 32 line with ⟨a1,a2,a3⟩|⟨u,v,a1,a2,a3,a4⟩
 ·rw [a2,a3]
  simp only [List.cons_append,List.nil_append,List.getD_cons_zero,List.getD_cons_succ,List.drop_succ_cons,List.drop_zero,List.tail_cons]
  rw [show join [[]] [32]=[] from rfl,show splitB 32 []=[[]] from rfl]
  rfl
 ·rw [a3,a4]
  rw [a4] at h1 h2
  simp only at h1 h2
  have hne:=(Zcm 32 v).2.2
  simp only [List.cons_append,List.getD_cons_zero,List.getD_cons_succ,List.drop_succ_cons,List.drop_zero,List.tail_cons]
  rw [join_snoc_nil hne,(Zcm 32 v).1]
  have key:∀ hv:NoB 32 v,(splitB 32 v++[[]]).getD 0 []=v:=λhv=>by rw [Zdr hv];rfl
  by_cases c1:u=wCam
  ·rw [if_pos c1,if_pos c1,key (h1 (.inl c1))]
  rw [if_neg c1,if_neg c1]
  by_cases c2:u=wTex
  ·rw [if_pos c2,if_pos c2,key (h1 (.inr (.inl c2)))]
  rw [if_neg c2,if_neg c2]
  by_cases c3:u=wSide
  ·rw [if_pos c3,if_pos c3,key (h1 (.inr (.inr c3)))]
  rw [if_neg c3,if_neg c3]
  by_cases c4:u=wShad
  ·rw [if_pos c4,if_pos c4,parF_sp (h2 c4)]
  rw [if_neg c4,if_neg c4]
theorem progT_len2 {p:Zae} (h:Zat p=true):(Zem p).length<=1999:=by
 have h1:=roots_sum (valid_down (Za7 h)) (valid_perm h)
 rw [Zbt] at h1
 have h2:=Zb8 h
 have h3:=Zbw h
 have key:∀ (l:List Zaa),(∀ x∈l,x.1.length<=8/\(textP p x.2.toNat).length<=sizeN (Zb3 p) x.2.toNat)->((l.map (assT p)).flatten).length<=13*l.length+((l.map λx=>x.2.toNat).map (sizeN (Zb3 p))).sum:=by
  intro l
  induction l with
  | nil=>intro _;simp
  | cons x t ih =>
   intro hl
   have i1:=ih (λy hy=>hl y (by simp [hy]))
   obtain ⟨i2,i3⟩:=hl x qs
   simp only [List.map_cons,List.flatten_cons,List.length_append,List.sum_cons,List.length_cons,assT,List.length_nil] at i1 ⊢
   omega
 unfold Zem progTo
 rw [List.take_length]
 have:=key p.2 (λx hx=>by
  obtain ⟨i,hi,rfl⟩:=List.getElem_of_mem hx
  obtain ⟨r1,r2,r3⟩:=Zfj h hi
  exact ⟨(ident_len r1).2,textP_size h _ qo⟩)
 have e:Zds p=p.2.map λx=>x.2.toNat:=rfl
 rw [e] at h1
 omega
theorem Zeq (b:UInt8) (l:List UInt8) (h:l.all (λx=>x != b)=true:=by decide):NoB b l:=by
 rw [List.all_eq_true] at h
 intro x hx e
 have:=h x hx
 subst e
 simp at this
theorem flatT_no (l:List UInt8):NoB 10 (flatT l):=by
 intro x hx e
 subst e
 unfold flatT at hx
 obtain ⟨b,hb,hbe⟩:=List.mem_map.1 hx
 split at hbe
 ·exact absurd hbe qd
 ·contradiction
theorem camT_no {b:UInt8} (hb:OffN b) (x1 x2 x3 x4:Int) (e:Bool) (x5 x6:Int):NoB b (camT x1 x2 x3 x4 e x5 x6):=NoB.fmtL hb _
theorem line_no {s:EScene}:∀ l∈Zaw s,NoB 10 l:=by
 have o10:OffN 10:=by unfold OffN;decide
 intro l hl
 unfold Zaw headL at hl
 simp only [List.mem_append,List.mem_cons,List.not_mem_nil,or_false,List.mem_map] at hl
 rcases hl with ((rfl|rfl|rfl)|⟨p,_,rfl⟩)|⟨x,_,rfl⟩
 ·exact (Zeq 10 _).app (camT_no o10 _ _ _ _ _ _ _)
 ·unfold texT;exact (Zeq 10 _).app (((NoB.fmtI ⟨o10.1,o10.2.2⟩ _).app (Zeq 10 _)).app (NoB.fmtL o10 _))
 ·exact (Zeq 10 _).app (NoB.fmtI ⟨o10.1,o10.2.2⟩ _)
 ·exact (Zeq 10 _).app (flatT_no _)
 ·have hp:∀ p,NoB 10 (Zeb p):=λp=>NoB.join qd (λq hq=>by
   simp only [patL,List.mem_cons,List.not_mem_nil,or_false] at hq
   rcases hq with rfl|rfl|rfl|rfl<;>exact NoB.fmtL o10 _)
  unfold surfT
  exact ((((((Zeq 10 _).app (NoB.fmtI ⟨o10.1,o10.2.2⟩ _)).app (Zeq 10 _)).app (NoB.fmtI ⟨o10.1,o10.2.2⟩ _)).app (Zeq 10 _)).app (hp _)).app (Zeq 10 _) |>.app (hp _)
theorem cut_lit {u v:List UInt8} (hu:NoB 32 u):cut (u++[32]++v) [32]=(u,v,true):=by
 rw [show u++[32]++v=u++32::v by simp]
 exact cut_at hu
theorem line_ok {s:EScene} (h:SceneIs s):∀ l∈Zaw s,LineOk l:=by
 have o32:OffN 32:=by unfold OffN;decide
 intro l hl
 unfold Zaw headL at hl
 simp only [List.mem_append,List.mem_cons,List.not_mem_nil,or_false,List.mem_map] at hl
 unfold LineOk
 rcases hl with ((rfl|rfl|rfl)|⟨p,hp,rfl⟩)|⟨x,_,rfl⟩
 ·rw [show [99,97,109,101,114,97,32]++camT s.a s.b s.c s.d s.e s.f s.g=wCam++[32]++camT s.a s.b s.c s.d s.e s.f s.g from rfl,cut_lit (Zeq 32 _)]
  exact ⟨λ_=>camT_no o32 _ _ _ _ _ _ _,λe=>absurd (show wCam=wShad from e) qd⟩
 ·rw [show [116,101,120,116,117,114,101,32]++texT s.log s.tex=wTex++[32]++texT s.log s.tex from rfl,cut_lit (Zeq 32 _)]
  refine ⟨λ_=>?_,λe=>absurd (show wTex=wShad from e) qd⟩
  unfold texT;exact ((NoB.fmtI ⟨o32.1,o32.2.2⟩ _).app (Zeq 32 _)).app (NoB.fmtL o32 _)
 ·rw [show [115,105,100,101,32]++fmtI s.side=wSide++[32]++fmtI s.side from rfl,cut_lit (Zeq 32 _)]
  exact ⟨λ_=>NoB.fmtI ⟨o32.1,o32.2.2⟩ _,λe=>absurd (show wSide=wShad from e) qd⟩
 ·obtain ⟨i,hi,rfl⟩:=List.getElem_of_mem hp
  have:=progT_len2 (Zco (Zfk h.shad hi))
  unfold shadT
  rw [show [115,104,97,100,101,114,32]++flatT (Zem s.ps[i])=wShad++[32]++flatT (Zem s.ps[i]) from rfl,cut_lit (Zeq 32 _)]
  exact ⟨λe=>absurd (show wShad=wCam∨wShad=wTex∨wShad=wSide from e) qd,λ_=>by rw [Zes];exact this⟩
 ·unfold surfT
  rw [show [115,117,114,102,97,99,101,32]++fmtI x.2.2.1++[32]++fmtI x.2.2.2++[32]++Zeb x.1++[32]++Zeb x.2.1=wSurf++[32]++(fmtI x.2.2.1++[32]++fmtI x.2.2.2++[32]++Zeb x.1++[32]++Zeb x.2.1) by simp [wSurf],cut_lit (Zeq 32 _)]
  exact ⟨λe=>absurd (show wSurf=wCam∨wSurf=wTex∨wSurf=wSide from e) qd,λe=>absurd (show wSurf=wShad from e) qd⟩
def linesT (l:List UInt8):List (List UInt8):=if (splitB 10 l).getLast? = some [] then (splitB 10 l).dropLast else splitB 10 l
def pS (t:List UInt8):EScene:=(linesT t).foldl updS Zdp
def pI (t:List UInt8):EScene:=(linesT t).foldl updI Zdp
def accS (t:List UInt8):Bool:=decide (Zbj (pS t)≠[])&&decide (Zbj (pS t)=t)
def accI (t:List UInt8):Bool:=decide ((linesT t).length<=11)&&(Za0 (pI t)&&decide (Zbj (pI t)=t))
theorem sceneT_ok {s:EScene}:Zbj s≠[]↔Za0 s=true:=by
 unfold Zbj
 split
 ·rename_i h;simp [h]
 ·rename_i h;simp at h;simp [h]
theorem linesT_scene {s:EScene} (h:Za0 s=true):linesT (Zbj s)=Zaw s:=by
 have hne:Zaw s≠[]:=by unfold Zaw headL;simp
 have e:Zbj s=join (Zaw s++[[]]) [10]:=by
  unfold Zbj
  rw [if_pos h]
  match hl:Zaw s,hne with
  | a::t,_=>rw [List.cons_append,join_cons,join_cons];simp [joinTail]
 have hs:splitB 10 (Zbj s)=Zaw s++[[]]:=by
  rw [e]
  exact Zd1 qs (λl hl=>by
   rcases List.mem_append.1 hl with hl|hl
   ·exact line_no l hl
   ·simp at hl;subst hl;exact NoB.nil _)
 unfold linesT
 rw [hs]
 simp
theorem foldl_same {s:EScene} (h:SceneIs s) (z:EScene):(Zaw s).foldl updS z=(Zaw s).foldl updI z:=by
 have:∀ (ls:List (List UInt8)),(∀ l∈ls,LineOk l)->∀ z,ls.foldl updS z=ls.foldl updI z:=by
  intro ls
  induction ls with
  | nil=>intro _ z;rfl
  | cons a t ih =>
   intro hk z
   rw [List.foldl_cons,List.foldl_cons,upd_eq (hk a qs),ih (λl hl=>hk l (by simp [hl]))]
 exact this _ (line_ok h) z
theorem p_same {s:EScene} (h:Za0 s=true):pS (Zbj s)=pI (Zbj s):=by
 unfold pS pI
 rw [linesT_scene h,foldl_same (sceneIs h)]
theorem acc_same (t:List UInt8):accS t=accI t/\(accS t=true->pS t=pI t):=by
 have h1:accS t=true->accI t=true/\pS t=pI t:=by
  intro h
  unfold accS at h
  simp only [Bool.and_eq_true,decide_eq_true_eq] at h
  obtain ⟨h2,h3⟩:=h
  have hok:=sceneT_ok.1 h2
  have e:pS t=pI t:=by
   have:=p_same hok
   rwa [h3] at this
  refine ⟨?_,e⟩
  unfold accI
  rw [<- e]
  simp only [Bool.and_eq_true,decide_eq_true_eq]
  refine ⟨?_,hok,h3⟩
  rw [<- h3,linesT_scene hok]
  exact lines_len (sceneIs hok)
 have h2:accI t=true->accS t=true:=by
  intro h
  unfold accI at h
  simp only [Bool.and_eq_true,decide_eq_true_eq] at h
  obtain ⟨_,hok,h3⟩:=h
  have e:pS t=pI t:=by
   have:=p_same hok
   rwa [h3] at this
  unfold accS
  rw [e]
  simp only [Bool.and_eq_true,decide_eq_true_eq]
  exact ⟨sceneT_ok.2 hok,h3⟩
 refine ⟨?_,λh=>(h1 h).2⟩
 cases hs:accS t with
 | true=>exact ((h1 hs).1).symm
 | false =>
  cases hi:accI t with
  | true=>rw [h2 hi] at hs;cases hs
  | false=>rfl
end Go.Proofs.YticdknjoapdmeaaGreatDoor
namespace Go.Proofs.YticdknjoapdmeaaGreatDoor
open Go.RowKit
theorem LO {α:Type}:type_of% (And.intro (@List.getElem_toArray α) (And.intro (@List.getElem_cons_succ α) (And.intro (@List.getElem_cons_zero α) (And.intro (@List.setIfInBounds_toArray α) (And.intro (@List.set_cons_zero α) (@List.set_cons_succ α)))))) :=
 And.intro (@List.getElem_toArray α) (And.intro (@List.getElem_cons_succ α) (And.intro (@List.getElem_cons_zero α) (And.intro (@List.setIfInBounds_toArray α) (And.intro (@List.set_cons_zero α) (@List.set_cons_succ α)))))
theorem tkH {P:Program} {md:Region.Mode} {ops:Array Oper} {Q:Exit->Act->World->Prop} {S:World->Prop} (i:Nat) {oi:Oper} {v:Value} {fuel:Nat} {listed:Array Bool} {a:Act} {w:World}
  (h:wpAnyH P md ops Q S fuel (listed.setIfInBounds i true) (a.put oi.dst v) w) (hi:ops[i]? = some oi:=by rfl) (hv:∀ w,S w->(execOp a.eval oi).run P w=.ok (.value v) w:=by intro w hSw;(try dsimp only at hSw);go_simp;try with_reducible rfl) (hs:Region.noSelect ops=true:=by kernel_rfl) (hf:Region.free md ops listed i=true:=by kernel_rfl) (hr:(Region.ready md ops listed).contains i=true:=by kernel_rfl)
  (hQ:∀ c a w,Q (.panic c) (a.put oi.dst v) w->Q (.panic c) a w:=by exact λ_ _ _ h=>h) (hw:Region.wanted oi (yielded ops a.tmps)=true:=by rfl) (hS:S w:=by assumption):wpAnyH P md ops Q S (fuel+1) listed a w :=
 wpAnyH_take hi hs hf hr hQ (Or.inl ⟨hw,hv⟩) hS h
section
variable {P:Program} {w w':World} {ops:Array Oper} {rest:List Oper} {o:Oper} {a:Act} {Q:Exit->Act->World->Prop}
theorem Zaj (hg:o.guard=none) (t:TypeId) (x:Operand) (ho:o.op=.load t x) {p v:Value} (hx:a.eval x=p) (hr:(Instr.loadAt t p).run P w=.ok v w') (h:wpList P ops Q rest (a.put o.dst v) w'):wpList P ops Q (o::rest) a w:=by
 refine wpList_plain hg λK hK=>?_
 unfold Oper.wp execOp
 simp only [ho,Sem.run_bind,Sem.run_pure,Result.andThen_ok,hx,hr]
 exact hK _ _ h
theorem Zao (hg:o.guard=none) (t:TypeId) (ho:o.op=.alloc t) {v:Value} (hr:(Instr.alloc t true (.tuple #[])).run P w=.ok v w') (h:wpList P ops Q rest (a.put o.dst v) w'):wpList P ops Q (o::rest) a w:=by
 refine wpList_plain hg λK hK=>?_
 unfold Oper.wp execOp
 simp only [ho,Sem.run_bind,Sem.run_pure,Result.andThen_ok,hr]
 exact hK _ _ h
theorem Zaf (hg:o.guard=none) (t:TypeId) (x y:Operand) (ho:o.op=.store t x y) {p v:Value} (hx:a.eval x=p) (hy:a.eval y=v) (hr:(Instr.storeAt t p v).run P w=.ok () w') (h:wpList P ops Q rest (a.put o.dst (.tuple #[])) w'):wpList P ops Q (o::rest) a w:=by
 refine wpList_plain hg λK hK=>?_
 unfold Oper.wp execOp
 simp only [ho,Sem.run_bind,Sem.run_pure,Result.andThen_ok,hx,hy,hr]
 exact hK _ _ h
end
section
variable {P:Program} {w:World} {T:TypeId} {d:TypeDesc} {n:Nat}
theorem Zal {b o:Nat} {cs:List Value} (hu:P.underlying T=some d) (hd:(match d with | .struct _ | .array _ _=>true|_=>false)=true) (hi:(P.info? T).map (·.size)=some cs.length) (h:∀ j v,cs[j]? = some v->w.cell? ⟨b,o+j,none⟩=some v) :
  (Instr.loadAt T (.pointer (some ⟨b,o,none⟩))).run P w=.ok (.agg ⟨cs⟩) w:=by
 have hl:(loadCells ⟨b,o,none⟩ cs.length).run P w=.ok cs.toArray w :=
  run_loadCells_list (P:=P) w ⟨b,o,none⟩ cs (λj v hv=>by
   have hadd:(⟨b,o,none⟩:Addr).add j=⟨b,o+j,none⟩:=by unfold Addr.add;split<;>simp_all
   rw [hadd];exact h j v hv)
 cases hq:P.info? T with
 | none=>simp [hq] at hi
 | some i =>
  have hs:i.size=cs.length:=by simpa [hq] using hi
  have hagg:(isAgg T).run P w=.ok true w:=by
   unfold isAgg
   rw [Sem.run_bind,run_underlying hu w]
   cases d<;>simp_all
  simp [Instr.loadAt,Instr.sureAddr,loadVar,Sem.run_bind,hagg,sizeOf,typeInfo,hq,hs,hl]
theorem big_box {b o:Nat} {cs:List Value} (zs:Array Value) (hu:P.underlying T=some d) (hd:(match d with | .struct _ | .array _ _=>true|_=>false)=true) (hi:(P.info? T).map (·.size)=some cs.length)
  (hz:∀ wx:World,(Instr.alloc T true (.tuple #[])).run P wx=.ok (.pointer (some ⟨wx.heap.size,0,none⟩)) (wx.alloc (.cells zs T))) (hzs:zs.size=cs.length) (h1:cs.all (·.oneCell')=true) (h:∀ j v,cs[j]? = some v->w.cell? ⟨b,o+j,none⟩=some v) :
  ∃ (w1 w2:World) (V:Value),V=.agg ⟨cs⟩/\(Instr.loadAt T (.pointer (some ⟨b,o,none⟩))).run P w=.ok V w/\(Instr.alloc T true (.tuple #[])).run P w=.ok (.pointer (some ⟨w.heap.size,0,none⟩)) w1 /\
   (Instr.storeAt T (.pointer (some ⟨w.heap.size,0,none⟩)) V).run P w1=.ok () w2/\(Instr.loadAt T (.pointer (some ⟨w.heap.size,0,none⟩))).run P w2=.ok V w2/\w2.heap.size=w.heap.size+1/\Below w.heap.size w w2/\Own w2 w.heap.size T cs:=by
 have ho1:Own (w.alloc (.cells zs T)) w.heap.size T zs.toList:=Own.new w T zs
 have hst:(storeVar T ⟨w.heap.size,0,none⟩ (.agg ⟨cs⟩)).run P (w.alloc (.cells zs T))=.ok () ((w.alloc (.cells zs T)).setRow w.heap.size ⟨cs⟩) :=
  run_storeVar_row (P:=P) _ w.heap.size T T zs ⟨cs⟩ ho1 (by simpa using hi) (by simpa using hzs) (by simpa using h1)
 have ho2:Own ((w.alloc (.cells zs T)).setRow w.heap.size ⟨cs⟩) w.heap.size T cs:=by
  have:=ho1
  unfold Own at this ⊢
  exact setRow_heap _ _ _ _ _ _ this
 refine ⟨_,(w.alloc (.cells zs T)).setRow w.heap.size ⟨cs⟩,_,rfl,Zal hu hd hi h,hz w, ?_, ?_, ?_, ?_,ho2⟩
 ·simp [Instr.storeAt,Instr.sureAddr,hst]
 ·exact Zal (o:=0) hu hd hi (λj v hv=>by rw [Nat.zero_add,ho2.cell];exact hv)
 ·simp [World.setRow]
 ·have hb:Below w.heap.size w (w.alloc (.cells zs T)):=(Below.refl _ _).alloc (Nat.le_refl _) _
  exact ⟨rfl,rfl,rfl,by simp [World.setRow],λk hk=>by
   have:((w.alloc (.cells zs T)).setRow w.heap.size ⟨cs⟩).heap[k]? = (w.alloc (.cells zs T)).heap[k]? := by
    simp [World.setRow,Array.getElem?_modify]
    intro e;omega
   exact this.trans (hb.block k hk)⟩
end
structure Up (lo:Nat) (w w':World):Prop where
 size:w.heap.size<=w'.heap.size
 block:∀ b,lo<=b->b<w.heap.size->w'.heap[b]? = w.heap[b]?
theorem Up.of_below {lo:Nat} {w w':World} (hb:Below w.heap.size w w'):Up lo w w':=⟨hb.size,λb _ h=>hb.block b h⟩
structure Elem (α:Type) where
 sz:Nat
 P:Nat->World->List Value->α->Prop
 len:∀ {lo w ys x},P lo w ys x->ys.length=sz
 one:∀ {lo w ys x},P lo w ys x->ys.all (·.oneCell')=true
 keep:∀ {lo w w' ys x},P lo w ys x->Up lo w w'->P lo w' ys x
 mono:∀ {lo lo' w ys x},P lo w ys x->lo'<=lo->P lo' w ys x
def lowA (lo:Nat) (A:Option Addr):Prop:=∀ x,x∈gOf A->lo<=x
theorem RS.up {w w':World} {size n c lo:Nat} {A:Option Addr} {xs:List Value} (h:RS w size A n c xs) (hl:lowA lo A) (hu:Up lo w w'):RS w' size A n c xs:=by
 obtain ⟨hn,A',c',hv,h1,h2,h3⟩:=h
 injection hv with e1 e2 e3
 subst e1;subst e3
 refine ⟨hn,A,c,rfl,h1,h2,λhp=>?_⟩
 obtain ⟨b,o,rfl,h4,h5,h6⟩:=h3 hp
 have hlb:=hl b (by simp [gOf])
 refine ⟨b,o,rfl,h4,Nat.lt_of_lt_of_le h5 hu.size,λj hj=>?_⟩
 rw [<- h6 j hj]
 simp [World.cell?,hu.block b hlb h5]
def RowL {α:Type} (E:Elem α) (lo:Nat) (w:World) (v:Value) (l:List α):Prop :=
 ∃ (A:Option Addr) (c:Nat) (cs:List Value),v=.slice A l.length c/\RS w E.sz A l.length c cs/\lowA lo A/\∀ (i:Nat) (h:i<l.length),E.P lo w ((cs.drop (i*E.sz)).take E.sz) l[i]
theorem RowL.keep {α:Type} {E:Elem α} {lo:Nat} {w w':World} {v:Value} {l:List α} (h:RowL E lo w v l) (hu:Up lo w w'):RowL E lo w' v l:=by
 obtain ⟨A,c,cs,rfl,hr,hl,hc⟩:=h
 exact ⟨A,c,cs,rfl,hr.up hl hu,hl,λi hi=>E.keep (hc i hi) hu⟩
theorem RowL.mono {α:Type} {E:Elem α} {lo lo':Nat} {w:World} {v:Value} {l:List α} (h:RowL E lo w v l) (hl:lo'<=lo):RowL E lo' w v l:=by
 obtain ⟨A,c,cs,rfl,hr,hA,hc⟩:=h
 exact ⟨A,c,cs,rfl,hr,λx hx=>Nat.le_trans hl (hA x hx),λi hi=>E.mono (hc i hi) hl⟩
theorem RowL.step {α:Type} {E:Elem α} {lo:Nat} {w w':World} {v:Value} {l:List α} (hb:Below w.heap.size w w') (h:RowL E lo w v l):RowL E lo w' v l:=h.keep (Up.of_below hb)
theorem RowL.slice {α:Type} {E:Elem α} {lo:Nat} {w:World} {v:Value} {l:List α} (h:RowL E lo w v l):∃ A c,v=.slice A l.length c/\l.length<=c/\c<=maxLen:=by
 obtain ⟨A,c,cs,rfl,hr,hl,hc⟩:=h
 obtain ⟨h1,h2,_⟩:=hr.open_
 exact ⟨A,c,rfl,h1,h2⟩
theorem RowL.at_ {α:Type} {E:Elem α} {lo:Nat} {w:World} {A:Option Addr} {c:Nat} {l:List α} (h:RowL E lo w (.slice A l.length c) l) {k:Nat} (hk:k<l.length) :
  ∃ (b o:Nat) (ys:List Value),A=some ⟨b,o,none⟩/\b<w.heap.size/\ys.length=E.sz/\E.P lo w ys l[k]/\∀ j v,ys[j]? = some v->w.cell? ⟨b,o+k*E.sz+j,none⟩=some v:=by
 obtain ⟨A',c',cs,hv,hr,hl,hc⟩:=h
 injection hv with e1 e2 e3
 subst e1;subst e3
 obtain ⟨h1,h2,h3⟩:=hr.open_
 obtain ⟨b,o,hA,hb,hcell⟩:=h3 qo
 have hp:=hc k hk
 have hle:(k+1)*E.sz<=l.length*E.sz:=Nat.mul_le_mul_right _ hk
 rw [Nat.succ_mul] at hle
 refine ⟨b,o,_,hA,hb,E.len hp,hp,λj v hv=>?_⟩
 have hj:j<E.sz:=by
  rcases Nat.lt_or_ge j E.sz with h|h
  ·exact h
  ·rw [List.getElem?_eq_none (by rw [E.len hp];exact h)] at hv;cases hv
 rw [List.getElem?_take_of_lt hj,List.getElem?_drop] at hv
 rw [Nat.add_assoc,hcell _ qo]
 exact hv
def FillL {α:Type} (E:Elem α) (lo:Nat) (w:World) (l:List α) (cs:List Value) (k:Nat):Prop:=cs.length=l.length*E.sz/\∀ (j:Nat) (h:j<l.length),j<k->E.P lo w ((cs.drop (j*E.sz)).take E.sz) l[j]
theorem FillL.keep {α:Type} {E:Elem α} {lo:Nat} {w w':World} {l:List α} {cs:List Value} {k:Nat} (h:FillL E lo w l cs k) (hu:Up lo w w'):FillL E lo w' l cs k:=⟨h.1,λj hj hk=>E.keep (h.2 j hj hk) hu⟩
theorem splice_at {cs zs:List Value} {k sz n:Nat} (hl:cs.length=n*sz) (hk:k<n) (hz:zs.length=sz):((cs.take (k*sz)++zs++cs.drop (k*sz+sz)).drop (k*sz)).take sz=zs:=by
 have h1:k*sz+sz<=n*sz:=by rw [<- Nat.succ_mul];exact Nat.mul_le_mul_right _ hk
 rw [List.append_assoc,List.drop_append_of_le_length (by rw [List.length_take];omega)]
 rw [List.drop_eq_nil_of_le (by rw [List.length_take];omega),List.nil_append,List.take_append_of_le_length qo,<- hz,List.take_length]
theorem splice_other {cs zs:List Value} {j k sz n:Nat} (hl:cs.length=n*sz) (hk:k<n) (hj:j<n) (hjk:j≠k) (hz:zs.length=sz):((cs.take (k*sz)++zs++cs.drop (k*sz+sz)).drop (j*sz)).take sz=(cs.drop (j*sz)).take sz:=by
 have h1:k*sz+sz<=n*sz:=by rw [<- Nat.succ_mul];exact Nat.mul_le_mul_right _ hk
 have h2:j*sz+sz<=n*sz:=by rw [<- Nat.succ_mul];exact Nat.mul_le_mul_right _ hj
 apply List.ext_getElem?
 intro i
 by_cases hi:i<sz
 ·rw [List.getElem?_take_of_lt hi,List.getElem?_take_of_lt hi,List.getElem?_drop,List.getElem?_drop]
  rcases Nat.lt_or_gt_of_ne hjk with h|h
  ·have:j*sz+sz<=k*sz:=by rw [<- Nat.succ_mul];exact Nat.mul_le_mul_right _ h
   rw [List.append_assoc,List.getElem?_append_left (by rw [List.length_take];omega),List.getElem?_take_of_lt qo]
  ·have:k*sz+sz<=j*sz:=by rw [<- Nat.succ_mul];exact Nat.mul_le_mul_right _ h
   rw [List.getElem?_append_right (by rw [List.length_append,List.length_take];omega),List.getElem?_drop,List.length_append,List.length_take]
   congr 1;omega
 ·rw [List.getElem?_eq_none (by rw [List.length_take];omega),List.getElem?_eq_none (by rw [List.length_take];omega)]
theorem FillL.succ {α:Type} {E:Elem α} {lo:Nat} {w:World} {l:List α} {cs zs:List Value} {k:Nat} (h:FillL E lo w l cs k) (hk:k<l.length) (hz:E.P lo w zs l[k]):FillL E lo w l (cs.take (k*E.sz)++zs++cs.drop (k*E.sz+E.sz)) (k+1):=by
 have hzl:=E.len hz
 have h1:k*E.sz+E.sz<=l.length*E.sz:=by rw [<- Nat.succ_mul];exact Nat.mul_le_mul_right _ hk
 have hl:=h.1
 refine ⟨by simp only [List.length_append,List.length_take,List.length_drop];omega,λj hj hjk=>?_⟩
 by_cases e:j=k
 ·subst e;rw [splice_at hl hk hzl];exact hz
 ·rw [splice_other hl hk hj e hzl];exact h.2 j hj qo
theorem Zay {P:Program} {w:World} {g:Nat} {t T:TypeId} {cs zs:List Value} {k:Nat} (ho:Own w g t cs) (hi:(P.info? T).map (·.size)=some zs.length) (hk:k+zs.length<=cs.length) (h1:zs.all (·.oneCell')=true) :
  ∃ w2,(Instr.storeAt T (.pointer (some ⟨g,k,none⟩)) (.agg ⟨zs⟩)).run P w=.ok () w2/\Own w2 g t (cs.take k++zs++cs.drop (k+zs.length))/\(∀ b,b≠g->w2.heap[b]? = w.heap[b]?)/\w2.heap.size=w.heap.size/\w2.os=w.os/\w2.tape=w.tape/\w2.output=w.output:=by
 have key:∀ (vs:List Value) (i:Nat) (w:World) (cs:List Value),Own w g t cs->k+i+vs.length<=cs.length->(vs.all (·.oneCell')=true) ->
   ∃ w2,(storeCells ⟨g,k,none⟩ vs i).run P w=.ok () w2/\Own w2 g t (cs.take (k+i)++vs++cs.drop (k+i+vs.length))/\(∀ b,b≠g->w2.heap[b]? = w.heap[b]?)/\w2.heap.size=w.heap.size/\w2.os=w.os/\w2.tape=w.tape/\w2.output=w.output:=by
  intro vs
  induction vs with
  | nil=>intro i w cs ho _ _;exact ⟨w,by simp [storeCells],by simpa using ho,λ_ _=>rfl,rfl,rfl,rfl,rfl⟩
  | cons v vs ih =>
   intro i w cs ho hl h1
   simp only [List.length_cons] at hl
   simp only [List.all_cons,Bool.and_eq_true] at h1
   have hadd:(⟨g,k,none⟩:Addr).add i=⟨g,k+i,none⟩:=by unfold Addr.add;split<;>simp_all
   have hst:(store ⟨g,k+i,none⟩ v).run P w=.ok () (w.setCell ⟨g,k+i,none⟩ v):=by
    rw [run_store P w _ _ _ h1.1]
    rw [ho.cell,ho.frozen,List.getElem?_eq_getElem qo]
    rfl
   obtain ⟨w2,hr,ho2,hb,hs,e1,e2,e3⟩:=ih (i+1) (w.setCell ⟨g,k+i,none⟩ v) (cs.set (k+i) v) (ho.set_ _ _) (by rw [List.length_set];omega) h1.2
   refine ⟨w2, ?_, ?_,λb hbg=>(hb b hbg).trans (Below.heap_setCell _ _ _ _ hbg),by rw [hs];simp [World.setCell],by rw [e1];rfl,by rw [e2];rfl,by rw [e3];rfl⟩
   ·simp only [storeCells,Sem.run_bind,hadd,hst,Result.andThen_ok]
    exact hr
   ·have e:(cs.set (k+i) v).take (k+(i+1))++vs++(cs.set (k+i) v).drop (k+(i+1)+vs.length)=cs.take (k+i)++(v::vs)++cs.drop (k+i+(v::vs).length):=by
     have a1:(cs.set (k+i) v).take (k+(i+1))=cs.take (k+i)++[v]:=by
      rw [show k+(i+1)=(k+i)+1 by omega,List.take_succ_eq_append_getElem (by rw [List.length_set];omega)]
      rw [List.take_set,List.set_eq_of_length_le (by rw [List.length_take];omega),List.getElem_set_self]
     have a2:(cs.set (k+i) v).drop (k+(i+1)+vs.length)=cs.drop (k+i+(v::vs).length):=by
      rw [List.drop_set_of_lt qo]
      congr 1;simp only [List.length_cons];omega
     rw [a1,a2];simp
    rw [<- e];exact ho2
 obtain ⟨w2,hr,ho2,hb⟩:=key zs 0 w cs ho qo h1
 simp only [Nat.add_zero] at ho2
 refine ⟨w2, ?_,ho2,hb⟩
 cases hq:P.info? T with
 | none=>simp [hq] at hi
 | some i =>
  have hs:i.size=zs.length:=by simpa [hq] using hi
  simp [Instr.storeAt,Instr.sureAddr,storeVar,sizeOf,typeInfo,hq,hs,Value.cells,hr]
end Go.Proofs.YticdknjoapdmeaaGreatDoor
namespace Go.Proofs.YticdknjoapdmeaaGreatDoor
set_option maxRecDepth 100000
open Go.RowKit Go.Lib
theorem Zcs {P:Program} {oi:Oper} {ev:Operand->Value} {t:TypeId} {x:Operand} {p v:Value} {w w':World} (ho:oi.op=.load t x) (hx:ev x=p) (h:(Instr.loadAt t p).run P w=.ok v w'):(execOp ev oi).run P w=.ok (.value v) w':=by
 unfold execOp
 simp only [ho,hx,Sem.run_bind,h,Result.andThen_ok,Sem.run_pure]
def nodeP (lo:Nat) (w:World) (ys:List Value) (x:Zac):Prop:=∃ A c,ys=[.int .i64 x.1,str x.2.1,.int .i64 x.2.2.1,.slice A x.2.2.2.length c]/\x.2.1.length<=maxLen/\RS w 1 A x.2.2.2.length c (ints x.2.2.2)/\lowA lo A
def nodeE:Elem Zac where
 sz:=4
 P:=nodeP
 len:=by rintro lo w ys x ⟨A,c,rfl,_⟩;rfl
 one:=by rintro lo w ys x ⟨A,c,rfl,_⟩;rfl
 keep:=by rintro lo w w' ys x ⟨A,c,rfl,h1,h2,h3⟩ hu;exact ⟨A,c,rfl,h1,h2.up h3 hu,h3⟩
 mono:=by rintro lo lo' w ys x ⟨A,c,rfl,h1,h2,h3⟩ hl;exact ⟨A,c,rfl,h1,h2,λy hy=>Nat.le_trans hl (h3 y hy)⟩
def assP (lo:Nat) (w:World) (ys:List Value) (x:Zaa):Prop:=ys=[str x.1,.int .i64 x.2]/\x.1.length<=maxLen
def assE:Elem Zaa where
 sz:=2
 P:=assP
 len:=by rintro lo w ys x ⟨rfl,_⟩;rfl
 one:=by rintro lo w ys x ⟨rfl,_⟩;rfl
 keep:=by rintro lo w w' ys x h hu;exact h
 mono:=by rintro lo lo' w ys x h hl;exact h
def nodeB (x:Zac):Prop:=x.2.1.length<=1048576/\x.2.2.2.length<=1048576
def assB (x:Zaa):Prop:=x.1.length<=1048576
theorem L_eqAssignment {lo lo':Nat} {ys ys':List Value} {x:Zaa} (w:World) (h:assE.P lo w ys x) (h':assE.P lo' w ys' x) :
  Calls Tryz.prog 205 #[.agg ⟨ys⟩,.agg ⟨ys'⟩] w λe w'=>e=.returned (.bool true)/\Below w.heap.size w w':=by
 obtain ⟨name,num⟩:=x
 obtain ⟨rfl,_⟩:=h
 obtain ⟨rfl,_⟩:=h'
 have e1:(name != name)=false:=qs
 have e2:(num != num)=false:=qs
 go_enter Tryz.func205,Tryz.ntmps205
 go_wp2_with fail
 go_ret
 exact ⟨rfl,bll⟩
theorem L_eqNode {lo lo':Nat} {ys ys':List Value} {x:Zac} (w:World) (h:nodeE.P lo w ys x) (h':nodeE.P lo' w ys' x) :
  Calls Tryz.prog 204 #[.agg ⟨ys⟩,.agg ⟨ys'⟩] w λe w'=>e=.returned (.bool true)/\Below w.heap.size w w':=by
 obtain ⟨op,name,num,l⟩:=x
 obtain ⟨A,c,rfl,_,hr,_⟩:=h
 obtain ⟨A2,c2,rfl,_,hr2,_⟩:=h'
 (try dsimp only at hr hr2)
 have HC:=qh (∀ wx,Below w.heap.size w wx->CB_ Tryz.prog 81 #[.slice A l.length c,.slice A2 l.length c2] wx (.bool true)) (λwx hb=>by have:=L_eqIntS A A2 c c2 l l wx (RS.step hb hr) (RS.step hb hr2);simpa using this)
 have e1:(name != name)=false:=qs
 have e2:(num != num)=false:=qs
 have e3:(op != op)=false:=qs
 clear hr hr2
 go_enter Tryz.func204,Tryz.ntmps204
 go_wp2_with (first|(go_at_call 81;(refine (HC.out _ bll).mono ?_);rintro e wA ⟨rfl,hbA⟩)|fail)
 go_ret
 exact ⟨rfl,bll⟩
theorem L_eqNodeS {lo lo':Nat} {A A2:Option Addr} {c c2:Nat} {l:List Zac} (w:World) (h:RowL nodeE lo w (.slice A l.length c) l) (h':RowL nodeE lo' w (.slice A2 l.length c2) l) :
  Calls Tryz.prog 141 #[.slice A l.length c,.slice A2 l.length c2] w λe w'=>e=.returned (.bool true)/\Below w.heap.size w w':=by
 obtain ⟨A0,c0,e0,hlc,hcm⟩:=h.slice
 injection e0 with e1 e2 e3
 subst e1;subst e3
 unfold maxLen at hcm
 have H0:=hdQ h
 have H1:=hdQ h'
 have hne:((l.length:Int) != (l.length:Int))=false:=qs
 clear h h' e2
 go_enter Tryz.func141,Tryz.ntmps141
 go_wp2_with fail
 go_loopw [5] (λi wr=>∃ k:Nat,k<=l.length/\i=.int .i64 k/\Below w.heap.size w wr) (λi _=>l.length-(RowKit.intOf i).toNat)
 case atStart=>exact ⟨0,Nat.zero_le _,rfl,bll⟩
 case round =>
  obtain ⟨k,hk,rfl,hb⟩:=hrel
  obtain ⟨wo,rfl⟩:=qe wr
  have hz:=hb.size
  have HB:=hdQ hb
  clear hb
  by_cases hlt:k<l.length
  ·obtain ⟨b,o,ys,rfl,hbh,hyl,hp,hcell⟩:=(H0.out.step HB.out).at_ hlt
   obtain ⟨b',o',ys',rfl,hbh',hyl',hp',hcell'⟩:=(H1.out.step HB.out).at_ hlt
   have HLD:=qh (∀ wx,(∀ o,wx.cell? ⟨b,o,none⟩=wo.cell? ⟨b,o,none⟩)->(Instr.loadAt 155 (.pointer (some ⟨b,o+k*4,none⟩))).run Tryz.prog wx=.ok (.agg ⟨ys⟩) wx) (λwx hx=>Zal (P:=Tryz.prog) Tryz.underlying155 rfl (by rw [hyl];kernel_rfl) (λj v hv=>by rw [hx];exact hcell j v hv))
   have HLD':Hid (∀ wx,(∀ o,wx.cell? ⟨b',o,none⟩=wo.cell? ⟨b',o,none⟩)->(Instr.loadAt 155 (.pointer (some ⟨b',o'+k*4,none⟩))).run Tryz.prog wx=.ok (.agg ⟨ys'⟩) wx):=hdQ (λwx hx=>Zal (P:=Tryz.prog) Tryz.underlying155 rfl (by rw [hyl'];kernel_rfl) (λj v hv=>by rw [hx];exact hcell' j v hv))
   have HC:=qh (∀ wx,Below wo.heap.size wo wx->CB_ Tryz.prog 204 #[.agg ⟨ys⟩,.agg ⟨ys'⟩] wx (.bool true)) (λwx hb=>L_eqNode wx (nodeE.keep hp (Up.of_below hb)) (nodeE.keep hp' (Up.of_below hb)))
   have i1:(k:Int)<l.length:=qo
   have i2:(0:Int)<=k:=qo
   clear hcell hp hyl hcell' hp' hyl'
   generalize Value.agg ⟨ys⟩=V at *
   generalize Value.agg ⟨ys'⟩=V' at *
   go_upto_region 6 with fail
   refine wp_region_held_drew (S:=λw'=>(Instr.loadAt 155 (.pointer (some ⟨b,o+k*4,none⟩))).run Tryz.prog w'=.ok V w'/\(Instr.loadAt 155 (.pointer (some ⟨b',o'+k*4,none⟩))).run Tryz.prog w'=.ok V' w') kr ?_ (λhHeld1=>?_)
   ·exact ⟨HLD.out _ (λ_=>rfl),HLD'.out _ (λ_=>rfl)⟩
   refine tkH 0 ?_;(try simp only [LO,Act.put])
   refine tkH 1 ?_;(try simp only [LO,Act.put])
   refine tkH 2 ?_;(try simp only [LO,Act.put])
   (refine wpAnyH_take (i:=3) (v:=V) rfl kr kr kr (λ_ _ _ h=>h) (Or.inl ⟨qr,λw hSw=>Zcs rfl rfl hSw.1⟩) ‹_› ?_);(try simp only [LO,Act.put])
   refine tkH 4 ?_;(try simp only [LO,Act.put])
   refine tkH 5 ?_;(try simp only [LO,Act.put])
   refine tkH 6 ?_;(try simp only [LO,Act.put])
   (refine wpAnyH_take (i:=7) (v:=V') rfl kr kr kr (λ_ _ _ h=>h) (Or.inl ⟨qr,λw hSw=>Zcs rfl rfl hSw.2⟩) ‹_› ?_);(try simp only [LO,Act.put])
   refine wpAnyH_ready (rs:=[8]) kr qs ?_
   refine AllReadyH.cons rfl (λK hK=>?_) AllReadyH.nil
   go_simp
   (go_at_call 204;(refine (HC.out _ bll).mono ?_);rintro e wA ⟨rfl,hbA⟩)
   (try go_wp2_with fail)
   refine hK.out _ _ ?_ (λhHeld2=>?_)
   ·exact ⟨HLD.out _ (λp=>hbA.cell (p:=⟨b,p,none⟩) (by simpa using hbh)),HLD'.out _ (λp=>hbA.cell (p:=⟨b',p,none⟩) (by simpa using hbh'))⟩
   have HB2:=bh w hbA
   clear hK K hHeld1 hbA
   (try simp only [LO,Act.put])
   refine tkH 9 ?_;(try simp only [LO,Act.put])
   refine wpAnyH_done kr ?_ _
   all_goals
    go_wp2_with fail
    go_roundw
    case rel=>exact ⟨k+1,qo,qg,bll⟩
    case measure=>exact qn
  ·obtain rfl:k=l.length:=by omega
   go_wp2_with fail
   go_ret
   exact ⟨rfl,HB.out⟩
theorem L_eqAssignmentS {lo lo':Nat} {A A2:Option Addr} {c c2:Nat} {l:List Zaa} (w:World) (h:RowL assE lo w (.slice A l.length c) l) (h':RowL assE lo' w (.slice A2 l.length c2) l) :
  Calls Tryz.prog 142 #[.slice A l.length c,.slice A2 l.length c2] w λe w'=>e=.returned (.bool true)/\Below w.heap.size w w':=by
 obtain ⟨A0,c0,e0,hlc,hcm⟩:=h.slice
 injection e0 with e1 e2 e3
 subst e1;subst e3
 unfold maxLen at hcm
 have H0:=hdQ h
 have H1:=hdQ h'
 have hne:((l.length:Int) != (l.length:Int))=false:=qs
 clear h h' e2
 go_enter Tryz.func142,Tryz.ntmps142
 go_wp2_with fail
 go_loopw [5] (λi wr=>∃ k:Nat,k<=l.length/\i=.int .i64 k/\Below w.heap.size w wr) (λi _=>l.length-(RowKit.intOf i).toNat)
 case atStart=>exact ⟨0,Nat.zero_le _,rfl,bll⟩
 case round =>
  obtain ⟨k,hk,rfl,hb⟩:=hrel
  obtain ⟨wo,rfl⟩:=qe wr
  have hz:=hb.size
  have HB:=hdQ hb
  clear hb
  by_cases hlt:k<l.length
  ·obtain ⟨b,o,ys,rfl,hbh,hyl,hp,hcell⟩:=(H0.out.step HB.out).at_ hlt
   obtain ⟨b',o',ys',rfl,hbh',hyl',hp',hcell'⟩:=(H1.out.step HB.out).at_ hlt
   have HLD:=qh (∀ wx,(∀ o,wx.cell? ⟨b,o,none⟩=wo.cell? ⟨b,o,none⟩)->(Instr.loadAt 106 (.pointer (some ⟨b,o+k*2,none⟩))).run Tryz.prog wx=.ok (.agg ⟨ys⟩) wx) (λwx hx=>Zal (P:=Tryz.prog) Tryz.underlying106 rfl (by rw [hyl];kernel_rfl) (λj v hv=>by rw [hx];exact hcell j v hv))
   have HLD':Hid (∀ wx,(∀ o,wx.cell? ⟨b',o,none⟩=wo.cell? ⟨b',o,none⟩)->(Instr.loadAt 106 (.pointer (some ⟨b',o'+k*2,none⟩))).run Tryz.prog wx=.ok (.agg ⟨ys'⟩) wx):=hdQ (λwx hx=>Zal (P:=Tryz.prog) Tryz.underlying106 rfl (by rw [hyl'];kernel_rfl) (λj v hv=>by rw [hx];exact hcell' j v hv))
   have HC:=qh (∀ wx,Below wo.heap.size wo wx->CB_ Tryz.prog 205 #[.agg ⟨ys⟩,.agg ⟨ys'⟩] wx (.bool true)) (λwx hb=>L_eqAssignment wx (assE.keep hp (Up.of_below hb)) (assE.keep hp' (Up.of_below hb)))
   have i1:(k:Int)<l.length:=qo
   have i2:(0:Int)<=k:=qo
   clear hcell hp hyl hcell' hp' hyl'
   generalize Value.agg ⟨ys⟩=V at *
   generalize Value.agg ⟨ys'⟩=V' at *
   go_upto_region 6 with fail
   refine wp_region_held_drew (S:=λw'=>(Instr.loadAt 106 (.pointer (some ⟨b,o+k*2,none⟩))).run Tryz.prog w'=.ok V w'/\(Instr.loadAt 106 (.pointer (some ⟨b',o'+k*2,none⟩))).run Tryz.prog w'=.ok V' w') kr ?_ (λhHeld1=>?_)
   ·exact ⟨HLD.out _ (λ_=>rfl),HLD'.out _ (λ_=>rfl)⟩
   refine tkH 0 ?_;(try simp only [LO,Act.put])
   refine tkH 1 ?_;(try simp only [LO,Act.put])
   refine tkH 2 ?_;(try simp only [LO,Act.put])
   (refine wpAnyH_take (i:=3) (v:=V) rfl kr kr kr (λ_ _ _ h=>h) (Or.inl ⟨qr,λw hSw=>Zcs rfl rfl hSw.1⟩) ‹_› ?_);(try simp only [LO,Act.put])
   refine tkH 4 ?_;(try simp only [LO,Act.put])
   refine tkH 5 ?_;(try simp only [LO,Act.put])
   refine tkH 6 ?_;(try simp only [LO,Act.put])
   (refine wpAnyH_take (i:=7) (v:=V') rfl kr kr kr (λ_ _ _ h=>h) (Or.inl ⟨qr,λw hSw=>Zcs rfl rfl hSw.2⟩) ‹_› ?_);(try simp only [LO,Act.put])
   refine wpAnyH_ready (rs:=[8]) kr qs ?_
   refine AllReadyH.cons rfl (λK hK=>?_) AllReadyH.nil
   go_simp
   (go_at_call 205;(refine (HC.out _ bll).mono ?_);rintro e wA ⟨rfl,hbA⟩)
   (try go_wp2_with fail)
   refine hK.out _ _ ?_ (λhHeld2=>?_)
   ·exact ⟨HLD.out _ (λp=>hbA.cell (p:=⟨b,p,none⟩) (by simpa using hbh)),HLD'.out _ (λp=>hbA.cell (p:=⟨b',p,none⟩) (by simpa using hbh'))⟩
   have HB2:=bh w hbA
   clear hK K hHeld1 hbA
   (try simp only [LO,Act.put])
   refine tkH 9 ?_;(try simp only [LO,Act.put])
   refine wpAnyH_done kr ?_ _
   all_goals
    go_wp2_with fail
    go_roundw
    case rel=>exact ⟨k+1,qo,qg,bll⟩
    case measure=>exact qn
  ·obtain rfl:k=l.length:=by omega
   go_wp2_with fail
   go_ret
   exact ⟨rfl,HB.out⟩
theorem Up.refl (lo:Nat) (w:World):Up lo w w:=⟨Nat.le_refl _,λ_ _ _=>rfl⟩
theorem Up.setCell {lo:Nat} {a w:World} (h:Up lo a w) {p:Addr} (hp:p.block<lo) (u:Value):Up lo a (w.setCell p u) :=
 ⟨by simpa [World.setCell] using h.size,λb h1 h2=>(Below.heap_setCell _ _ _ _ qo).trans (h.block b h1 h2)⟩
theorem Up.drewN {lo:Nat} {a w:World} (h:Up lo a w) (n:Nat):Up lo a (w.drewN n):=⟨h.size,h.block⟩
theorem Up.trans {lo:Nat} {a b c:World} (h:Up lo a b) (k:Up lo b c):Up lo a c:=⟨Nat.le_trans h.size k.size,λi h1 h2=>(k.block i h1 (Nat.lt_of_lt_of_le h2 h.size)).trans (h.block i h1 h2)⟩
theorem Up.step {lo:Nat} {a b c:World} (hb:Below b.heap.size b c) (h:Up lo a b):Up lo a c:=h.trans (Up.of_below hb)
def progP (lo:Nat) (w:World) (ys:List Value) (x:Zae):Prop:=∃ u v,ys=[u,v]/\RowL nodeE lo w u x.1/\RowL assE lo w v x.2
def progE:Elem Zae where
 sz:=2
 P:=progP
 len:=by rintro lo w ys x ⟨u,v,rfl,_⟩;rfl
 one:=by
  rintro lo w ys x ⟨u,v,rfl,h1,h2⟩
  obtain ⟨A,c,rfl,_⟩:=h1.slice
  obtain ⟨A2,c2,rfl,_⟩:=h2.slice
  rfl
 keep:=by rintro lo w w' ys x ⟨u,v,rfl,h1,h2⟩ hu;exact ⟨u,v,rfl,h1.keep hu,h2.keep hu⟩
 mono:=by rintro lo lo' w ys x ⟨u,v,rfl,h1,h2⟩ hl;exact ⟨u,v,rfl,h1.mono hl,h2.mono hl⟩
def progB (x:Zae):Prop:=(x.1.length<=1048576/\∀ y∈x.1,nodeB y)/\(x.2.length<=1048576/\∀ y∈x.2,assB y)
theorem L_eqProgram {lo lo':Nat} {ys ys':List Value} {x:Zae} (w:World) (h:progE.P lo w ys x) (h':progE.P lo' w ys' x) :
  Calls Tryz.prog 82 #[.agg ⟨ys⟩,.agg ⟨ys'⟩] w λe w'=>e=.returned (.bool true)/\Below w.heap.size w w':=by
 obtain ⟨u,v,rfl,hu,hv⟩:=h
 obtain ⟨A,c,rfl,_⟩:=hu.slice
 obtain ⟨A2,c2,rfl,_⟩:=hv.slice
 obtain ⟨u',v',rfl,hu',hv'⟩:=h'
 obtain ⟨A',c',rfl,_⟩:=hu'.slice
 obtain ⟨A2',c2',rfl,_⟩:=hv'.slice
 have HC1:=qh (∀ wx,Below w.heap.size w wx->CB_ Tryz.prog 141 #[.slice A x.1.length c,.slice A' x.1.length c'] wx (.bool true)) (λwx hb=>L_eqNodeS wx (hu.step hb) (hu'.step hb))
 have HC2:=qh (∀ wx,Below w.heap.size w wx->CB_ Tryz.prog 142 #[.slice A2 x.2.length c2,.slice A2' x.2.length c2'] wx (.bool true)) (λwx hb=>L_eqAssignmentS wx (hv.step hb) (hv'.step hb))
 clear hu hv hu' hv'
 go_enter Tryz.func82,Tryz.ntmps82
 go_wp2_with fail
 refine (HC1.out _ bll).mono ?_
 rintro e wA ⟨rfl,hbA⟩
 have hzA:=hbA.size
 (try simp at hzA)
 refine Zai hbA (w.heap.size) ?_ ?_
 ·first|omega|(simp<;>omega)
 intro n0 nf0 nz0
 refine Zai hbA (w.heap.size+1) ?_ ?_
 ·first|omega|(simp<;>omega)
 intro m0 mf0 mz0
 have HBA:=bh w hbA
 clear hbA
 go_wp2_with fail
 refine (HC2.out _ HBA.out).mono ?_
 rintro e wB ⟨rfl,hbB⟩
 have HBB:=qh (Below w.heap.size w wB) (Below.step hbB HBA.out HBA.out.size)
 clear hbB
 go_wp2_with fail
 go_ret
 exact ⟨rfl,HBB.out⟩
theorem L_eqProgramS {lo lo':Nat} {A A2:Option Addr} {c c2:Nat} {l:List Zae} (w:World) (h:RowL progE lo w (.slice A l.length c) l) (h':RowL progE lo' w (.slice A2 l.length c2) l) :
  Calls Tryz.prog 30 #[.slice A l.length c,.slice A2 l.length c2] w λe w'=>e=.returned (.bool true)/\Below w.heap.size w w':=by
 obtain ⟨A0,c0,e0,hlc,hcm⟩:=h.slice
 injection e0 with e1 e2 e3
 subst e1;subst e3
 unfold maxLen at hcm
 have H0:=hdQ h
 have H1:=hdQ h'
 have hne:((l.length:Int) != (l.length:Int))=false:=qs
 clear h h' e2
 go_enter Tryz.func30,Tryz.ntmps30
 go_wp2_with fail
 go_loopw [5] (λi wr=>∃ k:Nat,k<=l.length/\i=.int .i64 k/\Below w.heap.size w wr) (λi _=>l.length-(RowKit.intOf i).toNat)
 case atStart=>exact ⟨0,Nat.zero_le _,rfl,bll⟩
 case round =>
  obtain ⟨k,hk,rfl,hb⟩:=hrel
  obtain ⟨wo,rfl⟩:=qe wr
  have hz:=hb.size
  have HB:=hdQ hb
  clear hb
  by_cases hlt:k<l.length
  ·obtain ⟨b,o,ys,rfl,hbh,hyl,hp,hcell⟩:=(H0.out.step HB.out).at_ hlt
   obtain ⟨b',o',ys',rfl,hbh',hyl',hp',hcell'⟩:=(H1.out.step HB.out).at_ hlt
   have HLD:=qh (∀ wx,(∀ o,wx.cell? ⟨b,o,none⟩=wo.cell? ⟨b,o,none⟩)->(Instr.loadAt 62 (.pointer (some ⟨b,o+k*2,none⟩))).run Tryz.prog wx=.ok (.agg ⟨ys⟩) wx) (λwx hx=>Zal (P:=Tryz.prog) Tryz.underlying62 rfl (by rw [hyl];kernel_rfl) (λj v hv=>by rw [hx];exact hcell j v hv))
   have HLD':Hid (∀ wx,(∀ o,wx.cell? ⟨b',o,none⟩=wo.cell? ⟨b',o,none⟩)->(Instr.loadAt 62 (.pointer (some ⟨b',o'+k*2,none⟩))).run Tryz.prog wx=.ok (.agg ⟨ys'⟩) wx):=hdQ (λwx hx=>Zal (P:=Tryz.prog) Tryz.underlying62 rfl (by rw [hyl'];kernel_rfl) (λj v hv=>by rw [hx];exact hcell' j v hv))
   have HC:=qh (∀ wx,Below wo.heap.size wo wx->CB_ Tryz.prog 82 #[.agg ⟨ys⟩,.agg ⟨ys'⟩] wx (.bool true)) (λwx hb=>L_eqProgram wx (progE.keep hp (Up.of_below hb)) (progE.keep hp' (Up.of_below hb)))
   have i1:(k:Int)<l.length:=qo
   have i2:(0:Int)<=k:=qo
   clear hcell hp hyl hcell' hp' hyl'
   generalize Value.agg ⟨ys⟩=V at *
   generalize Value.agg ⟨ys'⟩=V' at *
   go_upto_region 6 with fail
   refine wp_region_held_drew (S:=λw'=>(Instr.loadAt 62 (.pointer (some ⟨b,o+k*2,none⟩))).run Tryz.prog w'=.ok V w'/\(Instr.loadAt 62 (.pointer (some ⟨b',o'+k*2,none⟩))).run Tryz.prog w'=.ok V' w') kr ?_ (λhHeld1=>?_)
   ·exact ⟨HLD.out _ (λ_=>rfl),HLD'.out _ (λ_=>rfl)⟩
   refine tkH 0 ?_;(try simp only [LO,Act.put])
   refine tkH 1 ?_;(try simp only [LO,Act.put])
   refine tkH 2 ?_;(try simp only [LO,Act.put])
   (refine wpAnyH_take (i:=3) (v:=V) rfl kr kr kr (λ_ _ _ h=>h) (Or.inl ⟨qr,λw hSw=>Zcs rfl rfl hSw.1⟩) ‹_› ?_);(try simp only [LO,Act.put])
   refine tkH 4 ?_;(try simp only [LO,Act.put])
   refine tkH 5 ?_;(try simp only [LO,Act.put])
   refine tkH 6 ?_;(try simp only [LO,Act.put])
   (refine wpAnyH_take (i:=7) (v:=V') rfl kr kr kr (λ_ _ _ h=>h) (Or.inl ⟨qr,λw hSw=>Zcs rfl rfl hSw.2⟩) ‹_› ?_);(try simp only [LO,Act.put])
   refine wpAnyH_ready (rs:=[8]) kr qs ?_
   refine AllReadyH.cons rfl (λK hK=>?_) AllReadyH.nil
   go_simp
   (go_at_call 82;(refine (HC.out _ bll).mono ?_);rintro e wA ⟨rfl,hbA⟩)
   (try go_wp2_with fail)
   refine hK.out _ _ ?_ (λhHeld2=>?_)
   ·exact ⟨HLD.out _ (λp=>hbA.cell (p:=⟨b,p,none⟩) (by simpa using hbh)),HLD'.out _ (λp=>hbA.cell (p:=⟨b',p,none⟩) (by simpa using hbh'))⟩
   have HB2:=bh w hbA
   clear hK K hHeld1 hbA
   (try simp only [LO,Act.put])
   refine tkH 9 ?_;(try simp only [LO,Act.put])
   refine wpAnyH_done kr ?_ _
   all_goals
    go_wp2_with fail
    go_roundw
    case rel=>exact ⟨k+1,qo,qg,bll⟩
    case measure=>exact qn
  ·obtain rfl:k=l.length:=by omega
   go_wp2_with fail
   go_ret
   exact ⟨rfl,HB.out⟩
end Go.Proofs.YticdknjoapdmeaaGreatDoor
namespace Go.Proofs.YticdknjoapdmeaaGreatDoor
open Go.RowKit
theorem eqlV (x y z p q r:Int) (w:World):(binOp .eql 40 (vVec x y z) (vVec p q r)).run Tryz.prog w=.ok (.bool (decide (x=p)&&(decide (y=q)&&decide (z=r)))) w:=by
 have u3:=Tryz.underlying3
 have hS:Tryz.prog.underlying 40=some (.struct (Tryz.prog.fieldsOf 40)):=kr
 have hp:Tryz.prog.stoodInHeld 40=false:=kr
 rw [run_eql_struct,show (10000:Nat)=9999+1 from rfl,run_equalIn_agg w 9999 40 _ _ hS hp]
 simp only [Program.fieldsOf,Tryz.underlying40]
 go_simp
 by_cases h1:x=p<;>by_cases h2:y=q<;>by_cases h3:z=r<;>simp [h1,h2,h3]
theorem S_IsValidVec (x y z:Int) (w:World) :
  Calls Tryz.prog 164 #[vVec x y z] w λe w'=>e=.returned (.bool (Zav x y z))/\Below w.heap.size w w':=by
 have heq:∀ wx:World,(binOp .eql 40 (.agg #[.int .i64 x,.int .i64 y,.int .i64 z]) (.agg #[.int .i64 (cl x),.int .i64 (cl y),.int .i64 (cl z)])).run Tryz.prog wx=.ok (.bool (Zav x y z)) wx:=λwx=>eqlV x y z (cl x) (cl y) (cl z) wx
 have hg:Tryz.prog.eqGuardType Tryz.prog.depth 40=false:=kr
 go_enter Tryz.func164,Tryz.ntmps164
 go_wp2_with fail
 go_region_held3 (λw'=>w'.cell? ⟨w.heap.size,0,none⟩=some (.int .i64 x)/\w'.cell? ⟨w.heap.size,1,none⟩=some (.int .i64 y)/\w'.cell? ⟨w.heap.size,2,none⟩=some (.int .i64 z))
  (first|((try dsimp only);refine ⟨?_, ?_, ?_⟩<;>(go_simp;done))|go_keep)
  (first|(go_at_call 218;(with_reducible refine (S_l02V _ _ _ _).mono ?_);rintro e w' ⟨rfl,hb⟩;have hz:=hb.size;(try simp at hz);obtain ⟨c0,f0,z0⟩:=bxx hb (w.heap.size))|fail)
 all_goals
  go_wp2
  go_ret
  exact ⟨rfl,bll⟩
theorem Zfb (x y z:Int) (w:World) :
  Calls Tryz.prog 161 #[vVec x y z] w λe w'=>e=.returned (.bool (Zav x y z))/\Below w.heap.size w w':=by
 have heq:∀ wx:World,(binOp .eql 40 (.agg #[.int .i64 x,.int .i64 y,.int .i64 z]) (.agg #[.int .i64 (cl x),.int .i64 (cl y),.int .i64 (cl z)])).run Tryz.prog wx=.ok (.bool (Zav x y z)) wx:=λwx=>eqlV x y z (cl x) (cl y) (cl z) wx
 have hg:Tryz.prog.eqGuardType Tryz.prog.depth 40=false:=kr
 go_enter Tryz.func161,Tryz.ntmps161
 go_wp2_with fail
 go_region_held3 (λw'=>w'.cell? ⟨w.heap.size,0,none⟩=some (.int .i64 x)/\w'.cell? ⟨w.heap.size,1,none⟩=some (.int .i64 y)/\w'.cell? ⟨w.heap.size,2,none⟩=some (.int .i64 z))
  (first|((try dsimp only);refine ⟨?_, ?_, ?_⟩<;>(go_simp;done))|go_keep)
  (first|(go_at_call 166;(with_reducible refine (I_clamped _ _ _ _).mono ?_);rintro e w' ⟨rfl,hb⟩;have hz:=hb.size;(try simp at hz);obtain ⟨c0,f0,z0⟩:=bxx hb (w.heap.size))|fail)
 all_goals
  go_wp2
  go_ret
  exact ⟨rfl,bll⟩
end Go.Proofs.YticdknjoapdmeaaGreatDoor
namespace Go.Proofs.YticdknjoapdmeaaGreatDoor
open Go.RowKit Go.Lib
abbrev Zcd (p:Za1):Value:=.agg #[.int .i64 (p 0),.int .i64 (p 1),.int .i64 (p 2),.int .i64 (p 3),.int .i64 (p 4),.int .i64 (p 5),.int .i64 (p 6),.int .i64 (p 7),.int .i64 (p 8),.int .i64 (p 9),.int .i64 (p 10),.int .i64 (p 11)]
theorem inNum_cl {x:Int} (h:x=cl x):Zcg x:=by have:=cl_rng x;unfold Zcg;omega
theorem validV_num {x y z:Int} (h:Zav x y z=true):∀ u∈[x,y,z],Zcg u:=by
 unfold Zav at h
 simp only [Bool.and_eq_true,decide_eq_true_eq] at h
 intro u hu
 simp only [List.mem_cons,List.not_mem_nil,or_false] at hu
 rcases hu with rfl|rfl|rfl
 ·exact inNum_cl h.1
 ·exact inNum_cl h.2.1
 ·exact inNum_cl h.2.2
def ptAt (p:Za1) (k:Nat):Bool:=Zav (p (3*k)) (p (3*k+1)) (p (3*k+2))
theorem validPt_at {p:Za1} (h:Za8 p=true):Zav (p 0) (p 1) (p 2)=true/\Zav (p 3) (p 4) (p 5)=true/\Zav (p 6) (p 7) (p 8)=true/\Zav (p 9) (p 10) (p 11)=true:=by
 unfold Za8 at h
 simpa only [Bool.and_eq_true] using h
theorem pt_all {p:Za1} (h:∀ j,j<4->ptAt p j=true):Za8 p=true:=by
 have h0:=h 0 qo;have h1:=h 1 qo;have h2:=h 2 qo;have h3:=h 3 qo
 unfold ptAt at h0 h1 h2 h3
 unfold Za8
 rw [h0,h1,h2,h3];rfl
theorem pt_good {p:Za1} (h:Za8 p=true) {k:Nat} (hk:k<4):ptAt p k=true:=by
 obtain ⟨h0,h1,h2,h3⟩:=validPt_at h
 rcases (show k=0∨k=1∨k=2∨k=3 by omega) with rfl|rfl|rfl|rfl
 ·exact h0
 ·exact h1
 ·exact h2
 ·exact h3
theorem pt_bad {p:Za1} {k:Nat} (hk:k<4) (h:ptAt p k=false):Za8 p=false:=by
 cases hv:Za8 p with
 | false=>rfl
 | true=>rw [pt_good hv hk] at h;cases h
theorem pt_at (p:Za1) (k:Nat) (hk:k<4):∃ x y z:Int,(∀ wx:World,(Instr.index 41 (Zcd p) (.int .i64 (k:Int))).run Tryz.prog wx=.ok (vVec x y z) wx)/\Zav x y z=ptAt p k/\(patL p).take (k+1)=(patL p).take k++[vecT x y z]:=by
 rcases (show k=0∨k=1∨k=2∨k=3 by omega) with rfl|rfl|rfl|rfl
 all_goals exact ⟨_,_,_,λwx=>by kernel_rfl,rfl,rfl⟩
theorem Zfg (p:Za1) (w:World) :
  Calls Tryz.prog 128 #[Zcd p] w λe w'=>e=.returned (.bool (Za8 p))/\Below w.heap.size w w':=by
 have HV:=qh (∀ (x y z:Int) (b:Bool),Zav x y z=b->∀ wx,CB_ Tryz.prog 164 #[vVec x y z] wx (.bool b)) (λx y z b h wx=>by subst h;exact S_IsValidVec x y z wx)
 have HP:=qh (Za8 p=(Zav (p 0) (p 1) (p 2)&&(Zav (p 3) (p 4) (p 5)&&(Zav (p 6) (p 7) (p 8)&&Zav (p 9) (p 10) (p 11))))) rfl
 go_enter Tryz.func128,Tryz.ntmps128
 go_wp2_with fail
 go_loopw [4,7] (λ_ i wr=>∃ k:Nat,k<=4/\i=.int .i64 k/\(∀ j,j<k->ptAt p j=true)/\Below w.heap.size w wr) (λ_ i _=>4-(RowKit.intOf i).toNat)
 case atStart=>exact ⟨0,qo,rfl,λj hj=>absurd hj (Nat.not_lt_zero j),bll⟩
 case round =>
  obtain ⟨k,hk,rfl,g0,hb⟩:=hrel
  obtain ⟨wo,rfl⟩:=qe wr
  have hz:=hb.size
  have HB:=hdQ hb
  have G0:=hdQ g0
  clear hb g0
  by_cases hk4:k<4
  ·obtain ⟨x,y,z,hidx,hv',_⟩:=pt_at p k hk4
   have HV':=hdQ hv'
   have i4:(k:Int)<4:=qo
   clear hv'
   cases hv:Zav x y z with
   | true =>
    go_wp2_with (first|(go_at_call 164;refine (HV.out _ _ _ _ hv _).mono ?_;rintro e w' ⟨rfl,hbx⟩;have hzx:=hbx.size;(try simp at hzx);have HBX:=bh w hbx;clear hbx)|fail)
    go_roundw
    case rel=>exact ⟨k+1,qo,qg,λj hj=>by (by_cases e:j<k;exact G0.out j e;obtain rfl:j=k:=qo;exact HV'.out.symm.trans hv),HBX.out⟩
    case measure=>exact qn
   | false =>
    have HF:=qh (Za8 p=false) (pt_bad hk4 (HV'.out.symm.trans hv))
    go_wp2_with (first|(go_at_call 164;refine (HV.out _ _ _ _ hv _).mono ?_;rintro e w' ⟨rfl,hbx⟩;have hzx:=hbx.size;(try simp at hzx);have HBX:=bh w hbx;clear hbx)|fail)
    go_ret
    exact ⟨Zad HF.out.symm,HBX.out⟩
  obtain rfl:k=4:=qo
  have HF:=qh (Za8 p=true) (pt_all G0.out)
  go_wp2_with fail
  go_ret
  exact ⟨Zad HF.out.symm,bll⟩
theorem S_FormatVec (x y z:Int) (w:World) (hv:Zav x y z=true) :
  Calls Tryz.prog 129 #[vVec x y z] w λe w'=>e=.returned (str (vecT x y z))/\Below w.heap.size w w':=by
 have HV:=qh (∀ wx,CB_ Tryz.prog 164 #[vVec x y z] wx (.bool true)) (λwx=>by have:=S_IsValidVec x y z wx;rw [hv] at this;exact this)
 have HF:=qh (∀ (wx:World) (A:Option Addr),RS wx 1 A 3 3 (ints [x,y,z])->Below w.heap.size w wx->CB_ Tryz.prog 117 #[.slice A 3 3] wx (str (vecT x y z))) (λwx A h hbx=>Ze9 (l:=[x,y,z]) wx h (validV_num hv) qs qs)
 clear hv
 go_enter Tryz.func129,Tryz.ntmps129
 go_wp2_with (first|(go_at_call 164;refine (HV.out _).mono ?_;rintro e w1 ⟨rfl,hb1⟩;have hz1:=hb1.size;(try simp at hz1);have c0:=λo=>hb1.cell (p:=⟨w.heap.size,o,none⟩) omm;have HB1:=bh w hb1;clear hb1)|fail)
 refine (HF.out _ _ ?_ bll).mono ?_
 ·exact Own.rs (n:=3) (size:=1) (by first|exact Own.new _ _ #[_,_,_]|exact Own.at_new (cs := #[_,_,_]) rfl) rfl qd
 rintro e w' ⟨rfl,hb⟩
 have hz:=hb.size
 (try simp at hz)
 go_wp2_with fail
 go_ret
 exact ⟨rfl,bll⟩
theorem S_FormatPatch (p:Za1) (w:World) (hv:Za8 p=true) :
  Calls Tryz.prog 67 #[Zcd p] w λe w'=>e=.returned (str (Zeb p))/\Below w.heap.size w w':=by
 have HV:=qh (∀ wx,CB_ Tryz.prog 128 #[Zcd p] wx (.bool true)) (λwx=>by have:=Zfg p wx;rw [hv] at this;exact this)
 have HF:=qh (∀ (x y z:Int),Zav x y z=true->∀ wx:World,Below w.heap.size w wx->CB_ Tryz.prog 129 #[vVec x y z] wx (str (vecT x y z))) (λx y z h wx hbx=>S_FormatVec x y z wx h)
 have V:=hdQ hv
 clear hv
 go_enter Tryz.func67,Tryz.ntmps67
 go_wp2_with (first|(go_at_call 128;refine (HV.out _).mono ?_;rintro e w1 ⟨rfl,hb1⟩;have hz1:=hb1.size;(try simp at hz1);have c0:=λo=>hb1.cell (p:=⟨w.heap.size,o,none⟩) omm;have lt1:w.heap.size<w1.heap.size:=qo;have ne1:¬ w.heap.size=w1.heap.size:=qo;have HB1:=bh w hb1;clear hb1)|fail)
 have HG0:=qh (Zah (w1.alloc (.cells #[] 9)) w.heap.size 9 1 (some ⟨w1.heap.size,0,none⟩) 0 0 (Zam ((patL p).take 0))) (Zah.lit w1 #[] 0 rfl qo (Nat.zero_le _))
 go_loopw [3,5,12] (λo _ i wr=>∃ (k:Nat) (B:Option Addr) (d:Nat),k<=4/\i=.int .i64 k/\o=.slice B k d/\Zah wr w.heap.size 9 1 B k d (Zam ((patL p).take k))/\Below w.heap.size w wr) (λ_ _ i _=>4-(RowKit.intOf i).toNat)
 case atStart=>exact ⟨0,_,_,qo,rfl,rfl,HG0.out,bll⟩
 case round =>
  obtain ⟨k,B,d,hk,rfl,rfl,hg,hb⟩:=hrel
  obtain ⟨wo,rfl⟩:=qe wr
  have HG:=hdQ hg
  have HB:=hdQ hb
  have hz:=hb.size
  clear hg hb HG0 c0 HB1
  by_cases hk4:k<4
  ·obtain ⟨x,y,z,hidx,hv',hs'⟩:=pt_at p k hk4
   have i4:(k:Int)<4:=qo
   have HS:=qh (Zam ((patL p).take (k+1))=Zam ((patL p).take k)++Zam [vecT x y z]) (by rw [hs'];simp)
   obtain ⟨y',hy⟩:=qv (vecT x y z)
   have HC:=qh (∀ wx:World,Below w.heap.size w wx->CB_ Tryz.prog 129 #[vVec x y z] wx (str y')) (λwx hbx=>by rw [<- hy];exact HF.out _ _ _ (hv'.trans (pt_good V.out hk4)) wx hbx)
   rw [hy] at HS
   have HK:=qh ((Zam ((patL p).take k)).length=k*1) HG.out.len
   clear hy hv' hs'
   go_wp2_with fail
   refine (HC.out _ bll).mono ?_
   rintro e wA ⟨rfl,hbA⟩
   have bA:Below w.heap.size w wA:=bst hbA
   have zA:=hbA.size
   (try simp at zA)
   have HGA:=qh (Zah wA w.heap.size 9 1 B k d (Zam ((patL p).take k))) (Zah.step hbA (gwx HG.out))
   clear hbA
   go_wp2_with (at_builtin;refine wpA (w.heap.size) Tryz.underlying50 T.infoString (Zam ((patL p).take k)) (Zam [y']) (Zbn _) ?_ ?_ ?_;exact (gwx HGA.out);exact (ltt 1);rintro A' c' w2 gA;have g1:=gA.1;have g2:=gA.2.1;rw [<- HS.out] at g1;have HG1:=hdQ g1;have HB2:=qh (Below w.heap.size w w2) (Below.trans (Below.alloc bA qo _) g2);clear gA g1 g2)
   go_roundw
   case rel=>exact ⟨k+1,_,_,qo,qg,rfl,HG1.out,HB2.out⟩
   case measure=>exact qn
  obtain rfl:k=4:=qo
  have HRS:=qh (RS wo 1 B (patL p).length d (Zam (patL p))) HG.out.rs
  have HJL:=qh ((join (patL p) [32]).length<=140737488355328) (by have h1:(join (patL p) [32]).length<=147:=Zez p;omega)
  have HJ:=qh (∀ wx,wx=wo->CB_ Tryz.prog 22 #[.slice B 4 d,.string ⟨#[32]⟩] wx (str (Zeb p))) (λwx hx=>by
   subst hx
   exact ((S_Join (sep:=[32]) _ HRS.out HJL.out qd)).mono (λe w' h=>⟨h.1,by obtain ⟨_,rfl⟩:=h;exact Below.refl _ _⟩))
  go_wp2_with fail
  refine (HJ.out _ rfl).mono ?_
  rintro e w' ⟨rfl,hb⟩
  go_wp2_with fail
  go_ret
  exact ⟨rfl,Below.step hb HB.out HB.out.size⟩
theorem Zfi (p:Za1) (w:World) :
  Calls Tryz.prog 99 #[Zcd p] w λe w'=>e=.returned (.bool (Za8 p))/\Below w.heap.size w w':=by
 have HV:=qh (∀ (x y z:Int) (b:Bool),Zav x y z=b->∀ wx,CB_ Tryz.prog 161 #[vVec x y z] wx (.bool b)) (λx y z b h wx=>by subst h;exact Zfb x y z wx)
 have HP:=qh (Za8 p=(Zav (p 0) (p 1) (p 2)&&(Zav (p 3) (p 4) (p 5)&&(Zav (p 6) (p 7) (p 8)&&Zav (p 9) (p 10) (p 11))))) rfl
 go_enter Tryz.func99,Tryz.ntmps99
 go_wp2_with fail
 go_loopw [4,7] (λ_ i wr=>∃ k:Nat,k<=4/\i=.int .i64 k/\(∀ j,j<k->ptAt p j=true)/\Below w.heap.size w wr) (λ_ i _=>4-(RowKit.intOf i).toNat)
 case atStart=>exact ⟨0,qo,rfl,λj hj=>absurd hj (Nat.not_lt_zero j),bll⟩
 case round =>
  obtain ⟨k,hk,rfl,g0,hb⟩:=hrel
  obtain ⟨wo,rfl⟩:=qe wr
  have hz:=hb.size
  have HB:=hdQ hb
  have G0:=hdQ g0
  clear hb g0
  by_cases hk4:k<4
  ·obtain ⟨x,y,z,hidx,hv',_⟩:=pt_at p k hk4
   have HV':=hdQ hv'
   have i4:(k:Int)<4:=qo
   clear hv'
   cases hv:Zav x y z with
   | true =>
    go_wp2_with (first|(go_at_call 161;refine (HV.out _ _ _ _ hv _).mono ?_;rintro e w' ⟨rfl,hbx⟩;have hzx:=hbx.size;(try simp at hzx);have HBX:=bh w hbx;clear hbx)|fail)
    go_roundw
    case rel=>exact ⟨k+1,qo,qg,λj hj=>by (by_cases e:j<k;exact G0.out j e;obtain rfl:j=k:=qo;exact HV'.out.symm.trans hv),HBX.out⟩
    case measure=>exact qn
   | false =>
    have HF:=qh (Za8 p=false) (pt_bad hk4 (HV'.out.symm.trans hv))
    go_wp2_with (first|(go_at_call 161;refine (HV.out _ _ _ _ hv _).mono ?_;rintro e w' ⟨rfl,hbx⟩;have hzx:=hbx.size;(try simp at hzx);have HBX:=bh w hbx;clear hbx)|fail)
    go_ret
    exact ⟨Zad HF.out.symm,HBX.out⟩
  obtain rfl:k=4:=qo
  have HF:=qh (Za8 p=true) (pt_all G0.out)
  go_wp2_with fail
  go_ret
  exact ⟨Zad HF.out.symm,bll⟩
theorem I_FormatVec (x y z:Int) (w:World) (hv:Zav x y z=true) (ht:Tab w) :
  Calls Tryz.prog 100 #[vVec x y z] w λe w'=>e=.returned (str (vecT x y z))/\Below w.heap.size w w':=by
 have HV:=qh (∀ wx,CB_ Tryz.prog 161 #[vVec x y z] wx (.bool true)) (λwx=>by have:=Zfb x y z wx;rw [hv] at this;exact this)
 have HF:=qh (∀ (wx:World) (A:Option Addr),RS wx 1 A 3 3 (ints [x,y,z])->Below w.heap.size w wx->CB_ Tryz.prog 91 #[.slice A 3 3] wx (str (vecT x y z))) (λwx A h hbx=>Zfc (l:=[x,y,z]) wx h (validV_num hv) qs qs (ht.step hbx))
 clear hv ht
 go_enter Tryz.func100,Tryz.ntmps100
 go_wp2_with (first|(go_at_call 161;refine (HV.out _).mono ?_;rintro e w1 ⟨rfl,hb1⟩;have hz1:=hb1.size;(try simp at hz1);have c0:=λo=>hb1.cell (p:=⟨w.heap.size,o,none⟩) omm;have HB1:=bh w hb1;clear hb1)|fail)
 refine (HF.out _ _ ?_ bll).mono ?_
 ·exact Own.rs (n:=3) (size:=1) (by first|exact Own.new _ _ #[_,_,_]|exact Own.at_new (cs := #[_,_,_]) rfl) rfl qd
 rintro e w' ⟨rfl,hb⟩
 have hz:=hb.size
 (try simp at hz)
 go_wp2_with fail
 go_ret
 exact ⟨rfl,bll⟩
theorem I_FormatPatch (p:Za1) (w:World) (hv:Za8 p=true) (ht:Tab w) :
  Calls Tryz.prog 46 #[Zcd p] w λe w'=>e=.returned (str (Zeb p))/\Below w.heap.size w w':=by
 have HV:=qh (∀ wx,CB_ Tryz.prog 99 #[Zcd p] wx (.bool true)) (λwx=>by have:=Zfi p wx;rw [hv] at this;exact this)
 have HF:=qh (∀ (x y z:Int),Zav x y z=true->∀ wx:World,Below w.heap.size w wx->CB_ Tryz.prog 100 #[vVec x y z] wx (str (vecT x y z))) (λx y z h wx hbx=>I_FormatVec x y z wx h (ht.step hbx))
 have V:=hdQ hv
 clear hv ht
 go_enter Tryz.func46,Tryz.ntmps46
 go_wp2_with (first|(go_at_call 99;refine (HV.out _).mono ?_;rintro e w1 ⟨rfl,hb1⟩;have hz1:=hb1.size;(try simp at hz1);have c0:=λo=>hb1.cell (p:=⟨w.heap.size,o,none⟩) omm;have lt1:w.heap.size<w1.heap.size:=qo;have ne1:¬ w.heap.size=w1.heap.size:=qo;have HB1:=bh w hb1;clear hb1)|fail)
 have HG0:=qh (Zah (w1.alloc (.cells #[] 9)) w.heap.size 9 1 (some ⟨w1.heap.size,0,none⟩) 0 0 (Zam ((patL p).take 0))) (Zah.lit w1 #[] 0 rfl qo (Nat.zero_le _))
 go_loopw [3,5,12] (λo _ i wr=>∃ (k:Nat) (B:Option Addr) (d:Nat),k<=4/\i=.int .i64 k/\o=.slice B k d/\Zah wr w.heap.size 9 1 B k d (Zam ((patL p).take k))/\Below w.heap.size w wr) (λ_ _ i _=>4-(RowKit.intOf i).toNat)
 case atStart=>exact ⟨0,_,_,qo,rfl,rfl,HG0.out,bll⟩
 case round =>
  obtain ⟨k,B,d,hk,rfl,rfl,hg,hb⟩:=hrel
  obtain ⟨wo,rfl⟩:=qe wr
  have HG:=hdQ hg
  have HB:=hdQ hb
  have hz:=hb.size
  clear hg hb HG0 c0 HB1
  by_cases hk4:k<4
  ·obtain ⟨x,y,z,hidx,hv',hs'⟩:=pt_at p k hk4
   have i4:(k:Int)<4:=qo
   have HS:=qh (Zam ((patL p).take (k+1))=Zam ((patL p).take k)++Zam [vecT x y z]) (by rw [hs'];simp)
   obtain ⟨y',hy⟩:=qv (vecT x y z)
   have HC:=qh (∀ wx:World,Below w.heap.size w wx->CB_ Tryz.prog 100 #[vVec x y z] wx (str y')) (λwx hbx=>by rw [<- hy];exact HF.out _ _ _ (hv'.trans (pt_good V.out hk4)) wx hbx)
   rw [hy] at HS
   have HK:=qh ((Zam ((patL p).take k)).length=k*1) HG.out.len
   clear hy hv' hs'
   go_wp2_with fail
   refine (HC.out _ bll).mono ?_
   rintro e wA ⟨rfl,hbA⟩
   have bA:Below w.heap.size w wA:=bst hbA
   have zA:=hbA.size
   (try simp at zA)
   have HGA:=qh (Zah wA w.heap.size 9 1 B k d (Zam ((patL p).take k))) (Zah.step hbA (gwx HG.out))
   clear hbA
   go_wp2_with (at_builtin;refine wpA (w.heap.size) Tryz.underlying50 T.infoString (Zam ((patL p).take k)) (Zam [y']) (Zbn _) ?_ ?_ ?_;exact (gwx HGA.out);exact (ltt 1);rintro A' c' w2 gA;have g1:=gA.1;have g2:=gA.2.1;rw [<- HS.out] at g1;have HG1:=hdQ g1;have HB2:=qh (Below w.heap.size w w2) (Below.trans (Below.alloc bA qo _) g2);clear gA g1 g2)
   go_roundw
   case rel=>exact ⟨k+1,_,_,qo,qg,rfl,HG1.out,HB2.out⟩
   case measure=>exact qn
  obtain rfl:k=4:=qo
  have HRS:=qh (RS wo 1 B (patL p).length d (Zam (patL p))) HG.out.rs
  have HJL:=qh ((join (patL p) [32]).length<=140737488355328) (by have h1:(join (patL p) [32]).length<=147:=Zez p;omega)
  have HJ:=qh (∀ wx,wx=wo->CB_ Tryz.prog 45 #[.slice B 4 d,.string ⟨#[32]⟩] wx (str (Zeb p))) (λwx hx=>by
   subst hx
   exact (I_Join (sep:=[32]) _ HRS.out (by simp [patL]) (by simp [patL]) HJL.out))
  go_wp2_with fail
  refine (HJ.out _ rfl).mono ?_
  rintro e w' ⟨rfl,hb⟩
  go_wp2_with fail
  go_ret
  exact ⟨rfl,Below.step hb HB.out HB.out.size⟩
end Go.Proofs.YticdknjoapdmeaaGreatDoor
namespace Go.Proofs.YticdknjoapdmeaaGreatDoor
set_option maxRecDepth 512
open Go.ChangeShapes Go.WideShapes Go.ChangeAt Go.RowKit
end Go.Proofs.YticdknjoapdmeaaGreatDoor
namespace Go.Proofs.YticdknjoapdmeaaGreatDoor
open Go.RowKit
theorem zeros_ints (n:Nat):(madeCells #[Value.int .i64 0] n).toList=ints (List.replicate n 0):=by rw [toList_madeCells_one];simp [ints]
def NodesIn (w:World) (A:Option Addr) (c:Nat) (l:List Zac):Prop:=l.length<=c/\c<=maxLen/\∀ (i:Nat) (hi:i<l.length),∃ b o A' c',A=some ⟨b,o,none⟩/\b<w.heap.size/\l[i].2.1.length<=maxLen/\RS w 1 A' l[i].2.2.2.length c' (ints l[i].2.2.2) /\
 w.cell? ⟨b,o+i*4,none⟩=some (.int .i64 l[i].1)/\w.cell? ⟨b,o+i*4+1,none⟩=some (str l[i].2.1)/\w.cell? ⟨b,o+i*4+2,none⟩=some (.int .i64 l[i].2.2.1)/\w.cell? ⟨b,o+i*4+3,none⟩=some (.slice A' l[i].2.2.2.length c')
def Zew (w:World) (A:Option Addr) (c:Nat) (l:List Zaa):Prop:=l.length<=c/\c<=maxLen/\∀ (i:Nat) (hi:i<l.length),∃ b o,A=some ⟨b,o,none⟩/\b<w.heap.size/\l[i].1.length<=maxLen /\
 w.cell? ⟨b,o+i*2,none⟩=some (str l[i].1)/\w.cell? ⟨b,o+i*2+1,none⟩=some (.int .i64 l[i].2)
theorem NodesIn.step {w w':World} {A:Option Addr} {c:Nat} {l:List Zac} (hb:Below w.heap.size w w') (h:NodesIn w A c l):NodesIn w' A c l:=by
 refine ⟨h.1,h.2.1,λi hi=>?_⟩
 obtain ⟨b,o,A',c',h1,h2,h3,h4,h5,h6,h7,h8⟩:=h.2.2 i hi
 have hz:=hb.size
 exact ⟨b,o,A',c',h1,qo,h3,RS.step hb h4,(hb.cell (p:=⟨b,_,none⟩) h2).trans h5,(hb.cell (p:=⟨b,_,none⟩) h2).trans h6,(hb.cell (p:=⟨b,_,none⟩) h2).trans h7,(hb.cell (p:=⟨b,_,none⟩) h2).trans h8⟩
theorem Zew.step {w w':World} {A:Option Addr} {c:Nat} {l:List Zaa} (hb:Below w.heap.size w w') (h:Zew w A c l):Zew w' A c l:=by
 refine ⟨h.1,h.2.1,λi hi=>?_⟩
 obtain ⟨b,o,h1,h2,h3,h4,h5⟩:=h.2.2 i hi
 have hz:=hb.size
 exact ⟨b,o,h1,qo,h3,(hb.cell (p:=⟨b,_,none⟩) h2).trans h4,(hb.cell (p:=⟨b,_,none⟩) h2).trans h5⟩
abbrev Zbs (A:Option Addr) (n c:Nat) (A2:Option Addr) (n2 c2:Nat):Value:=.agg #[.slice A n c,.slice A2 n2 c2]
def Zdl (w:World) (A:Option Addr) (c:Nat) (A2:Option Addr) (c2:Nat) (p:Zae):Prop:=NodesIn w A c p.1/\Zew w A2 c2 p.2
theorem Zdl.step {w w':World} {A A2:Option Addr} {c c2:Nat} {p:Zae} (hb:Below w.heap.size w w') (h:Zdl w A c A2 c2 p):Zdl w' A c A2 c2 p:=⟨h.1.step hb,h.2.step hb⟩
def Zgb (n:Nat) (us:List Nat):List Int:=(List.range n).map λx=>(us.count x:Int)
theorem Zga {n:Nat} {us:List Nat} {x:Nat} (h:x<n):(ints (Zgb n us))[x]? = some (.int .i64 (us.count x:Int)):=by simp [Zgb,h]
theorem cntL_snoc {n:Nat} {us:List Nat} {a:Nat} (h:a<n):(ints (Zgb n us)).set a (.int .i64 ((us.count a:Int)+1))=ints (Zgb n (us++[a])):=by
 apply List.ext_getElem?
 intro j
 by_cases hj:j<n
 ·by_cases e:a=j
  ·subst e
   rw [List.getElem?_set_self (by simp [Zgb];exact h),Zga h,List.count_append]
   simp
  ·rw [List.getElem?_set_ne e,Zga hj,Zga hj,List.count_append,List.count_cons]
   have:¬ a==j:=by simpa using e
   simp [this]
 ·rw [List.getElem?_eq_none (by simp [Zgb];omega),List.getElem?_eq_none (by simp [Zgb];omega)]
theorem cntL_nil (n:Nat):Zgb n []=List.replicate n 0:=by
 apply List.ext_getElem
 ·simp [Zgb]
 ·intro i h1 h2;simp [Zgb]
def Zar (p:Zae) (k:Nat):List Nat:=((Zb3 p).take k).flatten
theorem Zf3 {p:Zae} {k:Nat} (h:k<p.1.length):Zar p (k+1)=Zar p k++p.1[k].2.2.2.map Int.toNat:=by
 unfold Zar
 rw [List.take_succ_eq_append_getElem (by rw [Zbt];exact h),List.flatten_append]
 simp [Zb3]
theorem nodeUses_all (p:Zae):Zar p p.1.length=(Zb3 p).flatten:=by
 unfold Zar
 rw [<- Zbt (p:=p),List.take_length]
def Za3 (p:Zae) (k:Nat):List Nat:=(Zb3 p).flatten++(Zds p).take k
theorem rootUses_succ {p:Zae} {k:Nat} (h:k<p.2.length):Za3 p (k+1)=Za3 p k++[p.2[k].2.toNat]:=by
 unfold Za3
 rw [List.take_succ_eq_append_getElem (by simp [Zds];exact h),<- List.append_assoc]
 simp [Zds]
theorem rootUses_all (p:Zae):Za3 p p.2.length=usesP p:=by
 unfold Za3 usesP
 rw [List.take_of_length_le (by simp [Zds])]
theorem okShape_le {op:Int} {n:Nat} (h:Zbh op n=true):n<=3:=by
 unfold Zbh at h
 split at h
 ·have:=of_decide_eq_true h;omega
 ·split at h
  ·have:=of_decide_eq_true h;omega
  ·split at h
   ·have:=of_decide_eq_true h;omega
   ·split at h
    ·exact of_decide_eq_true h
    ·cases h
theorem Zeo {x:Zac} {k:Nat} (h:Zdb k x=true):x.2.2.2.length<=3/\∀ a∈x.2.2.2,0<=a/\a<k:=by
 unfold Zdb Zdc argsOk at h
 simp only [Bool.and_eq_true,List.all_eq_true] at h
 exact ⟨okShape_le h.1.2,λa ha=>by have:=Zbk (h.2 a ha);omega⟩
theorem nodesTo_one {p:Zae} {k m:Nat} (h:Zbg p m=true) (hk:k<m) (hm:m<=p.1.length):Zdb k (p.1[k]'qo)=true:=by
 unfold Zbg at h
 rw [List.all_eq_true] at h
 have:=h (p.1[k]'qo,k) (List.mk_mem_zipIdx_iff_getElem?.2 (by rw [List.getElem?_take_of_lt hk];exact List.getElem?_eq_getElem _))
 exact this
theorem nodesTo_mono {p:Zae} {k m:Nat} (hkm:k<=m) (hm:m<=p.1.length) (h:Zbg p m=true):Zbg p k=true:=by
 induction m with
 | zero =>
  obtain rfl:k=0:=by omega
  exact h
 | succ m ih =>
  by_cases e:k=m+1
  ·subst e;exact h
  ·rw [Ze1 qo] at h
   simp only [Bool.and_eq_true] at h
   exact ih qo qo h.1
theorem Ze2 {p:Zae}:∀ k,k<=p.1.length->Zbg p k=true->(Zar p k).length<=3*k
 | 0,_,_=>by simp [Zar]
 | k+1,hk,h=>by
  rw [Zf3 qo,List.length_append,List.length_map]
  have h1:=(Zeo (nodesTo_one h (Nat.lt_succ_self k) hk)).1
  have h2:=Ze2 (p:=p) k qo (by rw [Ze1 qo] at h;simp only [Bool.and_eq_true] at h;exact h.1)
  omega
theorem rootUses_len {p:Zae} (h:Zbg p p.1.length=true) (k:Nat):(Za3 p k).length<=3*p.1.length+k:=by
 unfold Za3
 rw [List.length_append,<- nodeUses_all]
 have:=Ze2 p.1.length (Nat.le_refl _) h
 have:((Zds p).take k).length<=k:=by simp;omega
 omega
theorem count_le {l:List Nat} (a:Nat):l.count a<=l.length:=List.count_le_length
def Ze0 (us:List Nat) (k:Nat):Bool:=(List.range k).all λx=>us.count x==1
theorem onesTo_succ (us:List Nat) (k:Nat):Ze0 us (k+1)=(Ze0 us k&&us.count k==1):=by
 unfold Ze0;rw [List.range_succ,List.all_append];simp
theorem onesTo_no {us:List Nat} {k n:Nat} (h:k<n) (hc:us.count k≠1):Ze0 us n=false:=by
 unfold Ze0;rw [List.all_eq_false]
 exact ⟨k,List.mem_range.2 h,by simpa using hc⟩
theorem Zc2 (p:Zae):Zat p=(decide (p.1.length<=60)&&Zbg p p.1.length&&Zbp p p.2.length&&Ze0 (usesP p) p.1.length):=rfl
theorem nodesTo_no {p:Zae} {k:Nat} (hk:k<p.1.length) (h:Zdb k p.1[k]=false):Zbg p p.1.length=false:=by
 cases e:Zbg p p.1.length with
 | false=>rfl
 | true=>rw [Zcl e hk] at h;cases h
theorem assignsTo_no {p:Zae} {k:Nat} (hk:k<p.2.length) (h:Zbz p.1.length p.2[k]=false):Zbp p p.2.length=false:=by
 cases e:Zbp p p.2.length with
 | false=>rfl
 | true=>rw [Ze7 e hk] at h;cases h
end Go.Proofs.YticdknjoapdmeaaGreatDoor
namespace Go.Proofs.YticdknjoapdmeaaGreatDoor
set_option maxRecDepth 100000
open Go.RowKit Go.Lib
abbrev vSurf (p q:Za1) (sh rt:Int):Value:=.agg #[.int .i64 (p 0),.int .i64 (p 1),.int .i64 (p 2),.int .i64 (p 3),.int .i64 (p 4),.int .i64 (p 5),.int .i64 (p 6),.int .i64 (p 7),.int .i64 (p 8),.int .i64 (p 9),.int .i64 (p 10),.int .i64 (p 11),.int .i64 (q 0),.int .i64 (q 1),.int .i64 (q 2),.int .i64 (q 3),.int .i64 (q 4),.int .i64 (q 5),.int .i64 (q 6),.int .i64 (q 7),.int .i64 (q 8),.int .i64 (q 9),.int .i64 (q 10),.int .i64 (q 11),.int .i64 sh,.int .i64 rt]
structure SurfAt (w:World) (b o:Nat) (p q:Za1) (sh rt:Int):Prop where
 p0:w.cell? ⟨b,o,none⟩=some (.int .i64 (p 0))
 p1:w.cell? ⟨b,o+1,none⟩=some (.int .i64 (p 1))
 p2:w.cell? ⟨b,o+2,none⟩=some (.int .i64 (p 2))
 p3:w.cell? ⟨b,o+3,none⟩=some (.int .i64 (p 3))
 p4:w.cell? ⟨b,o+4,none⟩=some (.int .i64 (p 4))
 p5:w.cell? ⟨b,o+5,none⟩=some (.int .i64 (p 5))
 p6:w.cell? ⟨b,o+6,none⟩=some (.int .i64 (p 6))
 p7:w.cell? ⟨b,o+7,none⟩=some (.int .i64 (p 7))
 p8:w.cell? ⟨b,o+8,none⟩=some (.int .i64 (p 8))
 p9:w.cell? ⟨b,o+9,none⟩=some (.int .i64 (p 9))
 p10:w.cell? ⟨b,o+10,none⟩=some (.int .i64 (p 10))
 p11:w.cell? ⟨b,o+11,none⟩=some (.int .i64 (p 11))
 q0:w.cell? ⟨b,o+12,none⟩=some (.int .i64 (q 0))
 q1:w.cell? ⟨b,o+13,none⟩=some (.int .i64 (q 1))
 q2:w.cell? ⟨b,o+14,none⟩=some (.int .i64 (q 2))
 q3:w.cell? ⟨b,o+15,none⟩=some (.int .i64 (q 3))
 q4:w.cell? ⟨b,o+16,none⟩=some (.int .i64 (q 4))
 q5:w.cell? ⟨b,o+17,none⟩=some (.int .i64 (q 5))
 q6:w.cell? ⟨b,o+18,none⟩=some (.int .i64 (q 6))
 q7:w.cell? ⟨b,o+19,none⟩=some (.int .i64 (q 7))
 q8:w.cell? ⟨b,o+20,none⟩=some (.int .i64 (q 8))
 q9:w.cell? ⟨b,o+21,none⟩=some (.int .i64 (q 9))
 q10:w.cell? ⟨b,o+22,none⟩=some (.int .i64 (q 10))
 q11:w.cell? ⟨b,o+23,none⟩=some (.int .i64 (q 11))
 s:w.cell? ⟨b,o+24,none⟩=some (.int .i64 sh)
 r:w.cell? ⟨b,o+25,none⟩=some (.int .i64 rt)
theorem SurfAt.below {w w':World} {B b o:Nat} {p q:Za1} {sh rt:Int} (h:SurfAt w b o p q sh rt) (hb:Below B w w') (hB:b<B):SurfAt w' b o p q sh rt :=
 ⟨(hb.cell (p:=⟨b,_,none⟩) hB).trans h.p0,(hb.cell (p:=⟨b,_,none⟩) hB).trans h.p1,(hb.cell (p:=⟨b,_,none⟩) hB).trans h.p2,(hb.cell (p:=⟨b,_,none⟩) hB).trans h.p3,(hb.cell (p:=⟨b,_,none⟩) hB).trans h.p4,(hb.cell (p:=⟨b,_,none⟩) hB).trans h.p5,(hb.cell (p:=⟨b,_,none⟩) hB).trans h.p6,(hb.cell (p:=⟨b,_,none⟩) hB).trans h.p7,(hb.cell (p:=⟨b,_,none⟩) hB).trans h.p8,(hb.cell (p:=⟨b,_,none⟩) hB).trans h.p9,(hb.cell (p:=⟨b,_,none⟩) hB).trans h.p10,(hb.cell (p:=⟨b,_,none⟩) hB).trans h.p11,(hb.cell (p:=⟨b,_,none⟩) hB).trans h.q0,(hb.cell (p:=⟨b,_,none⟩) hB).trans h.q1,(hb.cell (p:=⟨b,_,none⟩) hB).trans h.q2,(hb.cell (p:=⟨b,_,none⟩) hB).trans h.q3,(hb.cell (p:=⟨b,_,none⟩) hB).trans h.q4,(hb.cell (p:=⟨b,_,none⟩) hB).trans h.q5,(hb.cell (p:=⟨b,_,none⟩) hB).trans h.q6,(hb.cell (p:=⟨b,_,none⟩) hB).trans h.q7,(hb.cell (p:=⟨b,_,none⟩) hB).trans h.q8,(hb.cell (p:=⟨b,_,none⟩) hB).trans h.q9,(hb.cell (p:=⟨b,_,none⟩) hB).trans h.q10,(hb.cell (p:=⟨b,_,none⟩) hB).trans h.q11,(hb.cell (p:=⟨b,_,none⟩) hB).trans h.s,(hb.cell (p:=⟨b,_,none⟩) hB).trans h.r⟩
abbrev cSurf (p q:Za1) (sh rt:Int):List Value:=[.int .i64 (p 0),.int .i64 (p 1),.int .i64 (p 2),.int .i64 (p 3),.int .i64 (p 4),.int .i64 (p 5),.int .i64 (p 6),.int .i64 (p 7),.int .i64 (p 8),.int .i64 (p 9),.int .i64 (p 10),.int .i64 (p 11),.int .i64 (q 0),.int .i64 (q 1),.int .i64 (q 2),.int .i64 (q 3),.int .i64 (q 4),.int .i64 (q 5),.int .i64 (q 6),.int .i64 (q 7),.int .i64 (q 8),.int .i64 (q 9),.int .i64 (q 10),.int .i64 (q 11),.int .i64 sh,.int .i64 rt]
theorem SurfAt.cells {w:World} {b o:Nat} {p q:Za1} {sh rt:Int} (h:SurfAt w b o p q sh rt):∀ j v,(cSurf p q sh rt)[j]? = some v->w.cell? ⟨b,o+j,none⟩=some v:=by
 intro j v hv
 match j,hv with
 | 0,hv=>injection hv with hv;rw [<- hv];exact h.p0
 | 1,hv=>injection hv with hv;rw [<- hv];exact h.p1
 | 2,hv=>injection hv with hv;rw [<- hv];exact h.p2
 | 3,hv=>injection hv with hv;rw [<- hv];exact h.p3
 | 4,hv=>injection hv with hv;rw [<- hv];exact h.p4
 | 5,hv=>injection hv with hv;rw [<- hv];exact h.p5
 | 6,hv=>injection hv with hv;rw [<- hv];exact h.p6
 | 7,hv=>injection hv with hv;rw [<- hv];exact h.p7
 | 8,hv=>injection hv with hv;rw [<- hv];exact h.p8
 | 9,hv=>injection hv with hv;rw [<- hv];exact h.p9
 | 10,hv=>injection hv with hv;rw [<- hv];exact h.p10
 | 11,hv=>injection hv with hv;rw [<- hv];exact h.p11
 | 12,hv=>injection hv with hv;rw [<- hv];exact h.q0
 | 13,hv=>injection hv with hv;rw [<- hv];exact h.q1
 | 14,hv=>injection hv with hv;rw [<- hv];exact h.q2
 | 15,hv=>injection hv with hv;rw [<- hv];exact h.q3
 | 16,hv=>injection hv with hv;rw [<- hv];exact h.q4
 | 17,hv=>injection hv with hv;rw [<- hv];exact h.q5
 | 18,hv=>injection hv with hv;rw [<- hv];exact h.q6
 | 19,hv=>injection hv with hv;rw [<- hv];exact h.q7
 | 20,hv=>injection hv with hv;rw [<- hv];exact h.q8
 | 21,hv=>injection hv with hv;rw [<- hv];exact h.q9
 | 22,hv=>injection hv with hv;rw [<- hv];exact h.q10
 | 23,hv=>injection hv with hv;rw [<- hv];exact h.q11
 | 24,hv=>injection hv with hv;rw [<- hv];exact h.s
 | 25,hv=>injection hv with hv;rw [<- hv];exact h.r
 | j+26,hv=>simp at hv
def SurfsIn (w:World) (A:Option Addr) (c:Nat) (l:List Zdz):Prop:=l.length<=c/\c<=maxLen/\∀ (i:Nat) (hi:i<l.length),∃ b o,A=some ⟨b,o,none⟩/\b<w.heap.size/\SurfAt w b (o+i*26) l[i].1 l[i].2.1 l[i].2.2.1 l[i].2.2.2
theorem SurfsIn.step {w w':World} {A:Option Addr} {c:Nat} {l:List Zdz} (hb:Below w.heap.size w w') (h:SurfsIn w A c l):SurfsIn w' A c l:=by
 refine ⟨h.1,h.2.1,λi hi=>?_⟩
 obtain ⟨b,o,h1,h2,h3⟩:=h.2.2 i hi
 have hz:=hb.size
 exact ⟨b,o,h1,qo,h3.below hb h2⟩
def ProgsIn (w:World) (A:Option Addr) (c:Nat) (l:List Zae):Prop:=l.length<=c/\c<=maxLen/\∀ (i:Nat) (hi:i<l.length),∃ b o A1 c1 A2 c2,A=some ⟨b,o,none⟩/\b<w.heap.size/\Zdl w A1 c1 A2 c2 l[i]/\l[i].1.length<=1048576/\l[i].2.length<=1048576 /\
 w.cell? ⟨b,o+i*2,none⟩=some (.slice A1 l[i].1.length c1)/\w.cell? ⟨b,o+i*2+1,none⟩=some (.slice A2 l[i].2.length c2)
theorem ProgsIn.step {w w':World} {A:Option Addr} {c:Nat} {l:List Zae} (hb:Below w.heap.size w w') (h:ProgsIn w A c l):ProgsIn w' A c l:=by
 refine ⟨h.1,h.2.1,λi hi=>?_⟩
 obtain ⟨b,o,A1,c1,A2,c2,h1,h2,h3,h4,h5,h6,h7⟩:=h.2.2 i hi
 have hz:=hb.size
 exact ⟨b,o,A1,c1,A2,c2,h1,qo,h3.step hb,h4,h5,(hb.cell (p:=⟨b,_,none⟩) h2).trans h6,(hb.cell (p:=⟨b,_,none⟩) h2).trans h7⟩
abbrev vScene (s:EScene) (T:Option Addr) (tc:Nat) (P:Option Addr) (pc:Nat) (Q:Option Addr) (qc:Nat):Value:=.agg #[.int .i64 s.a,.int .i64 s.b,.int .i64 s.c,.int .i64 s.d,.bool s.e,.int .i64 s.f,.int .i64 s.g,.int .i64 s.log,.slice T s.tex.length tc,.slice P s.ps.length pc,.slice Q s.ss.length qc,.int .i64 s.side]
abbrev cScene (s:EScene) (T:Option Addr) (tc:Nat) (P:Option Addr) (pc:Nat) (Q:Option Addr) (qc:Nat):List Value:=[.int .i64 s.a,.int .i64 s.b,.int .i64 s.c,.int .i64 s.d,.bool s.e,.int .i64 s.f,.int .i64 s.g,.int .i64 s.log,.slice T s.tex.length tc,.slice P s.ps.length pc,.slice Q s.ss.length qc,.int .i64 s.side]
structure SceneIn (w:World) (s:EScene) (T:Option Addr) (tc:Nat) (P:Option Addr) (pc:Nat) (Q:Option Addr) (qc:Nat):Prop where
 tex:RS w 1 T s.tex.length tc (ints s.tex)
 ps:ProgsIn w P pc s.ps
 ss:SurfsIn w Q qc s.ss
theorem SceneIn.step {w w':World} {s:EScene} {T P Q:Option Addr} {tc pc qc:Nat} (hb:Below w.heap.size w w') (h:SceneIn w s T tc P pc Q qc):SceneIn w' s T tc P pc Q qc:=⟨RS.step hb h.tex,h.ps.step hb,h.ss.step hb⟩
theorem T.infoSurf:(Tryz.prog.info? 45).map (·.size)=some 26:=kr
theorem alloc_surf (wx:World):(Instr.alloc 45 true (.tuple #[])).run Tryz.prog wx=.ok (.pointer (some ⟨wx.heap.size,0,none⟩)) (wx.alloc (.cells (Array.replicate 26 (.int .i64 0)) 45)):=kr
theorem surf_box {w:World} {b o:Nat} {p q:Za1} {sh rt:Int} (h:SurfAt w b o p q sh rt):∃ (w1 w2:World) (V:Value),V=vSurf p q sh rt/\(Instr.loadAt 45 (.pointer (some ⟨b,o,none⟩))).run Tryz.prog w=.ok V w/\(Instr.alloc 45 true (.tuple #[])).run Tryz.prog w=.ok (.pointer (some ⟨w.heap.size,0,none⟩)) w1 /\
  (Instr.storeAt 45 (.pointer (some ⟨w.heap.size,0,none⟩)) V).run Tryz.prog w1=.ok () w2/\(Instr.loadAt 45 (.pointer (some ⟨w.heap.size,0,none⟩))).run Tryz.prog w2=.ok V w2/\w2.heap.size=w.heap.size+1/\Below w.heap.size w w2/\Own w2 w.heap.size 45 (cSurf p q sh rt) :=
 big_box (Array.replicate 26 (.int .i64 0)) Tryz.underlying45 rfl T.infoSurf alloc_surf qs rfl h.cells
theorem S_l20Rate (r:Int) (w:World):Calls Tryz.prog 181 #[.int .i64 r] w λe w'=>e=.returned (.bool (rateB r))/\w=w':=by
 go_enter Tryz.func181,Tryz.ntmps181
 go_wp2_with fail
 all_goals
  go_ret
  exact ⟨Zad (by (try simp only [beq_iff_eq,beq_eq_false_iff_ne] at *);unfold rateB;first|(simp_all;done)|(rw [Bool.eq_iff_iff];simp<;>omega)),rfl⟩
theorem I_rateOk (r:Int) (w:World):Calls Tryz.prog 140 #[.int .i64 r] w λe w'=>e=.returned (.bool (rateB r))/\w=w':=by
 go_enter Tryz.func140,Tryz.ntmps140
 go_wp2_with fail
 all_goals
  go_ret
  exact ⟨Zad (by (try simp only [beq_iff_eq,beq_eq_false_iff_ne] at *);unfold rateB;first|(simp_all;done)|(rw [Bool.eq_iff_iff];simp<;>omega)),rfl⟩
theorem I_sideOk (r:Int) (w:World):Calls Tryz.prog 78 #[.int .i64 r] w λe w'=>e=.returned (.bool (sideB r))/\w=w':=by
 go_enter Tryz.func78,Tryz.ntmps78
 go_wp2_with fail
 all_goals
  go_ret
  exact ⟨Zad (by (try simp only [beq_iff_eq,beq_eq_false_iff_ne] at *);unfold sideB;first|(simp_all;done)|(rw [Bool.eq_iff_iff];simp<;>omega)),rfl⟩
theorem surfOk_def (n:Int) (p q:Za1) (sh rt:Int):surfOk n (p,q,sh,rt)=(Za8 p&&(Za8 q&&(decide (0<=sh)&&(decide (sh<n)&&rateB rt)))):=rfl
theorem S_IsValidSurface (p q:Za1) (sh rt n:Int) (w:World) :
  Calls Tryz.prog 125 #[vSurf p q sh rt,.int .i64 n] w λe w'=>e=.returned (.bool (surfOk n (p,q,sh,rt)))/\Below w.heap.size w w':=by
 have HR:=qh (∀ wx,Calls Tryz.prog 181 #[.int .i64 rt] wx λe w'=>e=.returned (.bool (rateB rt))/\wx=w') (λwx=>S_l20Rate rt wx)
 rw [surfOk_def]
 have HA:=hdQ (Zfg p)
 have HC:=hdQ (Zfg q)
 cases h1:Za8 p with
 | false =>
  have HP1:=qh (∀ wx,CB_ Tryz.prog 128 #[Zcd p] wx (.bool false)) (λwx=>by have:=HA.out wx;rw [h1] at this;exact this)
  clear HA HC
  go_enter Tryz.func125,Tryz.ntmps125
  go_wp2_with (first|(go_at_call 128;(with_reducible refine (HP1.out _).mono ?_);rintro e w1 ⟨rfl,hb1⟩;have hz1:=hb1.size;(try simp at hz1);have c1:=λo=>hb1.cell (p:=⟨w.heap.size,o,none⟩) omm;have HB1:=bh w hb1;clear hb1)|fail)
  go_ret
  exact ⟨rfl,HB1.out⟩
 | true =>
  have HP1:=qh (∀ wx,CB_ Tryz.prog 128 #[Zcd p] wx (.bool true)) (λwx=>by have:=HA.out wx;rw [h1] at this;exact this)
  cases h2:Za8 q with
  | false =>
   have HP2:=qh (∀ wx,CB_ Tryz.prog 128 #[Zcd q] wx (.bool false)) (λwx=>by have:=HC.out wx;rw [h2] at this;exact this)
   clear HA HC
   go_enter Tryz.func125,Tryz.ntmps125
   go_wp2_with (first|(go_at_call 128;(with_reducible refine (HP1.out _).mono ?_);rintro e w1 ⟨rfl,hb1⟩;have hz1:=hb1.size;(try simp at hz1);have c1:=λo=>hb1.cell (p:=⟨w.heap.size,o,none⟩) omm;have HB1:=bh w hb1;clear hb1)|(go_at_call 128;(with_reducible refine (HP2.out _).mono ?_);rintro e w2 ⟨rfl,hb2⟩;have hz2:=hb2.size;(try simp at hz2);have c2:=λo=>hb2.cell (p:=⟨w.heap.size,o,none⟩) omm;have HB2:=qh (Below w.heap.size w w2) (Below.step hb2 HB1.out omm);clear hb2)|fail)
   go_ret
   exact ⟨rfl,HB2.out⟩
  | true =>
   have HP2:=qh (∀ wx,CB_ Tryz.prog 128 #[Zcd q] wx (.bool true)) (λwx=>by have:=HC.out wx;rw [h2] at this;exact this)
   clear HA HC
   by_cases h3:0<=sh
   ·have e3:decide (0<=sh)=true:=decide_eq_true h3
    by_cases h4:sh<n
    ·have e4:decide (sh<n)=true:=decide_eq_true h4
     rw [e3,e4]
     go_enter Tryz.func125,Tryz.ntmps125
     go_wp2_with (first|(go_at_call 128;(with_reducible refine (HP1.out _).mono ?_);rintro e w1 ⟨rfl,hb1⟩;have hz1:=hb1.size;(try simp at hz1);have c1:=λo=>hb1.cell (p:=⟨w.heap.size,o,none⟩) omm;have HB1:=bh w hb1;clear hb1)|(go_at_call 128;(with_reducible refine (HP2.out _).mono ?_);rintro e w2 ⟨rfl,hb2⟩;have hz2:=hb2.size;(try simp at hz2);have c2:=λo=>hb2.cell (p:=⟨w.heap.size,o,none⟩) omm;have HB2:=qh (Below w.heap.size w w2) (Below.step hb2 HB1.out omm);clear hb2)|(go_at_call 181;refine (HR.out _).mono ?_;rintro e w' ⟨rfl,rfl⟩)|fail)
     go_ret
     exact ⟨Zad qs,HB2.out⟩
    ·have e4:decide (sh<n)=false:=decide_eq_false h4
     rw [e3,e4]
     go_enter Tryz.func125,Tryz.ntmps125
     go_wp2_with (first|(go_at_call 128;(with_reducible refine (HP1.out _).mono ?_);rintro e w1 ⟨rfl,hb1⟩;have hz1:=hb1.size;(try simp at hz1);have c1:=λo=>hb1.cell (p:=⟨w.heap.size,o,none⟩) omm;have HB1:=bh w hb1;clear hb1)|(go_at_call 128;(with_reducible refine (HP2.out _).mono ?_);rintro e w2 ⟨rfl,hb2⟩;have hz2:=hb2.size;(try simp at hz2);have c2:=λo=>hb2.cell (p:=⟨w.heap.size,o,none⟩) omm;have HB2:=qh (Below w.heap.size w w2) (Below.step hb2 HB1.out omm);clear hb2)|fail)
     go_ret
     exact ⟨rfl,HB2.out⟩
   ·have e3:decide (0<=sh)=false:=decide_eq_false h3
    rw [e3]
    go_enter Tryz.func125,Tryz.ntmps125
    go_wp2_with (first|(go_at_call 128;(with_reducible refine (HP1.out _).mono ?_);rintro e w1 ⟨rfl,hb1⟩;have hz1:=hb1.size;(try simp at hz1);have c1:=λo=>hb1.cell (p:=⟨w.heap.size,o,none⟩) omm;have HB1:=bh w hb1;clear hb1)|(go_at_call 128;(with_reducible refine (HP2.out _).mono ?_);rintro e w2 ⟨rfl,hb2⟩;have hz2:=hb2.size;(try simp at hz2);have c2:=λo=>hb2.cell (p:=⟨w.heap.size,o,none⟩) omm;have HB2:=qh (Below w.heap.size w w2) (Below.step hb2 HB1.out omm);clear hb2)|fail)
    go_ret
    exact ⟨rfl,HB2.out⟩
theorem I_IsValidSurface (p q:Za1) (sh rt n:Int) (w:World) :
  Calls Tryz.prog 80 #[vSurf p q sh rt,.int .i64 n] w λe w'=>e=.returned (.bool (surfOk n (p,q,sh,rt)))/\Below w.heap.size w w':=by
 have HR:=qh (∀ wx,Calls Tryz.prog 140 #[.int .i64 rt] wx λe w'=>e=.returned (.bool (rateB rt))/\wx=w') (λwx=>I_rateOk rt wx)
 rw [surfOk_def]
 have HA:=hdQ (Zfi p)
 have HC:=hdQ (Zfi q)
 cases h1:Za8 p with
 | false =>
  have HP1:=qh (∀ wx,CB_ Tryz.prog 99 #[Zcd p] wx (.bool false)) (λwx=>by have:=HA.out wx;rw [h1] at this;exact this)
  clear HA HC
  go_enter Tryz.func80,Tryz.ntmps80
  go_wp2_with (first|(go_at_call 99;(with_reducible refine (HP1.out _).mono ?_);rintro e w1 ⟨rfl,hb1⟩;have hz1:=hb1.size;(try simp at hz1);have c1:=λo=>hb1.cell (p:=⟨w.heap.size,o,none⟩) omm;have HB1:=bh w hb1;clear hb1)|fail)
  go_ret
  exact ⟨rfl,HB1.out⟩
 | true =>
  have HP1:=qh (∀ wx,CB_ Tryz.prog 99 #[Zcd p] wx (.bool true)) (λwx=>by have:=HA.out wx;rw [h1] at this;exact this)
  cases h2:Za8 q with
  | false =>
   have HP2:=qh (∀ wx,CB_ Tryz.prog 99 #[Zcd q] wx (.bool false)) (λwx=>by have:=HC.out wx;rw [h2] at this;exact this)
   clear HA HC
   go_enter Tryz.func80,Tryz.ntmps80
   go_wp2_with (first|(go_at_call 99;(with_reducible refine (HP1.out _).mono ?_);rintro e w1 ⟨rfl,hb1⟩;have hz1:=hb1.size;(try simp at hz1);have c1:=λo=>hb1.cell (p:=⟨w.heap.size,o,none⟩) omm;have HB1:=bh w hb1;clear hb1)|(go_at_call 99;(with_reducible refine (HP2.out _).mono ?_);rintro e w2 ⟨rfl,hb2⟩;have hz2:=hb2.size;(try simp at hz2);have c2:=λo=>hb2.cell (p:=⟨w.heap.size,o,none⟩) omm;have HB2:=qh (Below w.heap.size w w2) (Below.step hb2 HB1.out omm);clear hb2)|fail)
   go_ret
   exact ⟨rfl,HB2.out⟩
  | true =>
   have HP2:=qh (∀ wx,CB_ Tryz.prog 99 #[Zcd q] wx (.bool true)) (λwx=>by have:=HC.out wx;rw [h2] at this;exact this)
   clear HA HC
   by_cases h3:0<=sh
   ·have e3:decide (0<=sh)=true:=decide_eq_true h3
    by_cases h4:sh<n
    ·have e4:decide (sh<n)=true:=decide_eq_true h4
     rw [e3,e4]
     go_enter Tryz.func80,Tryz.ntmps80
     go_wp2_with (first|(go_at_call 99;(with_reducible refine (HP1.out _).mono ?_);rintro e w1 ⟨rfl,hb1⟩;have hz1:=hb1.size;(try simp at hz1);have c1:=λo=>hb1.cell (p:=⟨w.heap.size,o,none⟩) omm;have HB1:=bh w hb1;clear hb1)|(go_at_call 99;(with_reducible refine (HP2.out _).mono ?_);rintro e w2 ⟨rfl,hb2⟩;have hz2:=hb2.size;(try simp at hz2);have c2:=λo=>hb2.cell (p:=⟨w.heap.size,o,none⟩) omm;have HB2:=qh (Below w.heap.size w w2) (Below.step hb2 HB1.out omm);clear hb2)|(go_at_call 140;refine (HR.out _).mono ?_;rintro e w' ⟨rfl,rfl⟩)|fail)
     go_ret
     exact ⟨Zad qs,HB2.out⟩
    ·have e4:decide (sh<n)=false:=decide_eq_false h4
     rw [e3,e4]
     go_enter Tryz.func80,Tryz.ntmps80
     go_wp2_with (first|(go_at_call 99;(with_reducible refine (HP1.out _).mono ?_);rintro e w1 ⟨rfl,hb1⟩;have hz1:=hb1.size;(try simp at hz1);have c1:=λo=>hb1.cell (p:=⟨w.heap.size,o,none⟩) omm;have HB1:=bh w hb1;clear hb1)|(go_at_call 99;(with_reducible refine (HP2.out _).mono ?_);rintro e w2 ⟨rfl,hb2⟩;have hz2:=hb2.size;(try simp at hz2);have c2:=λo=>hb2.cell (p:=⟨w.heap.size,o,none⟩) omm;have HB2:=qh (Below w.heap.size w w2) (Below.step hb2 HB1.out omm);clear hb2)|fail)
     go_ret
     exact ⟨rfl,HB2.out⟩
   ·have e3:decide (0<=sh)=false:=decide_eq_false h3
    rw [e3]
    go_enter Tryz.func80,Tryz.ntmps80
    go_wp2_with (first|(go_at_call 99;(with_reducible refine (HP1.out _).mono ?_);rintro e w1 ⟨rfl,hb1⟩;have hz1:=hb1.size;(try simp at hz1);have c1:=λo=>hb1.cell (p:=⟨w.heap.size,o,none⟩) omm;have HB1:=bh w hb1;clear hb1)|(go_at_call 99;(with_reducible refine (HP2.out _).mono ?_);rintro e w2 ⟨rfl,hb2⟩;have hz2:=hb2.size;(try simp at hz2);have c2:=λo=>hb2.cell (p:=⟨w.heap.size,o,none⟩) omm;have HB2:=qh (Below w.heap.size w w2) (Below.step hb2 HB1.out omm);clear hb2)|fail)
    go_ret
    exact ⟨rfl,HB2.out⟩
def c12 (p:Za1):List Value:=(List.range 12).map λj=>.int .i64 (p j)
theorem c12_at {p:Za1} {j:Nat} (h:j<12):(c12 p)[j]? = some (.int .i64 (p j)):=by simp [c12,h]
theorem Zb5 (p:Za1):(c12 p).length=12:=by simp [c12]
def z26:List Value:=List.replicate 26 (.int .i64 0)
theorem L_eqVecA4 (p:Za1) (w:World):Calls Tryz.prog 206 #[.agg ⟨c12 p⟩,.agg ⟨c12 p⟩] w λe w'=>e=.returned (.bool true)/\Below w.heap.size w w':=by
 have HA0:=qh (Own ((w.alloc (.cells ⟨c12 p⟩ 41)).alloc (.cells ⟨c12 p⟩ 41)) w.heap.size 41 (c12 p)) (Own.alloc (Own.new w _ _) _)
 have HA1:=qh (Own ((w.alloc (.cells ⟨c12 p⟩ 41)).alloc (.cells ⟨c12 p⟩ 41)) (w.heap.size+1) 41 (c12 p)) (Own.at_new (cs:=⟨c12 p⟩) qs)
 go_enter Tryz.func206,Tryz.ntmps206
 go_wp2_with fail
 go_loopw [5] (λi wr=>∃ k:Nat,k<=4/\i=.int .i64 k/\Own wr w.heap.size 41 (c12 p)/\Own wr (w.heap.size+1) 41 (c12 p)/\Below w.heap.size w wr) (λi _=>4-(RowKit.intOf i).toNat)
 case atStart=>exact ⟨0,Nat.zero_le _,rfl,HA0.out,HA1.out,bll⟩
 case round =>
  obtain ⟨k,hk,rfl,ho0,ho1,hb⟩:=hrel
  obtain ⟨wo,rfl⟩:=qe wr
  have hz:=hb.size
  have hl1:=ho1.lt
  have HO0:=hdQ ho0
  have HO1:=hdQ ho1
  have HB:=hdQ hb
  clear ho0 ho1 hb HA0 HA1
  by_cases hlt:k<4
  ·have HLD:=qh (∀ b,(b=w.heap.size∨b=w.heap.size+1)->∀ wx,(∀ o,wx.cell? ⟨b,o,none⟩=wo.cell? ⟨b,o,none⟩)->(Instr.loadAt 40 (.pointer (some ⟨b,k*3,none⟩))).run Tryz.prog wx=.ok (.agg #[.int .i64 (p (k*3)),.int .i64 (p (k*3+1)),.int .i64 (p (k*3+2))]) wx) (λb hb wx hx=>Zal (P:=Tryz.prog) (cs:=[.int .i64 (p (k*3)),.int .i64 (p (k*3+1)),.int .i64 (p (k*3+2))]) Tryz.underlying40 rfl kr (λj v hv=>by
    have hc:∀ i,i<12->wx.cell? ⟨b,i,none⟩=some (.int .i64 (p i)):=λi hi=>by
     rw [hx]
     rcases hb with rfl|rfl
     ·rw [HO0.out.cell];exact c12_at hi
     ·rw [HO1.out.cell];exact c12_at hi
    match j,hv with
    | 0,hv=>injection hv with hv;rw [<- hv];exact hc _ qo
    | 1,hv=>injection hv with hv;rw [<- hv];exact hc _ qo
    | 2,hv=>injection hv with hv;rw [<- hv];exact hc _ qo
    | j+3,hv=>simp at hv))
   have HC:=hdQ (L_eqVec (p (k*3)) (p (k*3+1)) (p (k*3+2)))
   have i1:(k:Int)<4:=qo
   have i2:(0:Int)<=k:=qo
   generalize hV:Value.agg #[.int .i64 (p (k*3)),.int .i64 (p (k*3+1)),.int .i64 (p (k*3+2))]=V at *
   clear hV
   go_upto_region 4 with fail
   refine wp_region_held_drew (S:=λw'=>(Instr.loadAt 40 (.pointer (some ⟨w.heap.size,k*3,none⟩))).run Tryz.prog w'=.ok V w'/\(Instr.loadAt 40 (.pointer (some ⟨w.heap.size+1,k*3,none⟩))).run Tryz.prog w'=.ok V w') kr ?_ (λhHeld1=>?_)
   ·exact ⟨HLD.out _ (.inl rfl) _ (λ_=>rfl),HLD.out _ (.inr rfl) _ (λ_=>rfl)⟩
   refine tkH 0 ?_;(try simp only [LO,Act.put])
   refine tkH 1 ?_;(try simp only [LO,Act.put])
   (refine wpAnyH_take (i:=2) (v:=V) rfl kr kr kr (λ_ _ _ h=>h) (Or.inl ⟨qr,λw hSw=>Zcs rfl rfl hSw.1⟩) ‹_› ?_);(try simp only [LO,Act.put])
   refine tkH 3 ?_;(try simp only [LO,Act.put])
   refine tkH 4 ?_;(try simp only [LO,Act.put])
   (refine wpAnyH_take (i:=5) (v:=V) rfl kr kr kr (λ_ _ _ h=>h) (Or.inl ⟨qr,λw hSw=>Zcs rfl rfl hSw.2⟩) ‹_› ?_);(try simp only [LO,Act.put])
   refine wpAnyH_ready (rs:=[6]) kr qs ?_
   refine AllReadyH.cons rfl (λK hK=>?_) AllReadyH.nil
   go_simp
   (go_at_call 250;(refine (HC.out _).mono ?_);rintro e wA ⟨rfl,hbA⟩)
   (try go_wp2_with fail)
   refine hK.out _ _ ?_ (λhHeld2=>?_)
   ·exact ⟨HLD.out _ (.inl rfl) _ (λq=>hbA.cell (p:=⟨w.heap.size,q,none⟩) omm),HLD.out _ (.inr rfl) _ (λq=>hbA.cell (p:=⟨w.heap.size+1,q,none⟩) omm)⟩
   have HB2:=bh w hbA
   have HO0':Hid (Own wA w.heap.size 41 (c12 p)):=hdQ (Own.step hbA (owx HO0.out))
   have HO1':Hid (Own wA (w.heap.size+1) 41 (c12 p)):=hdQ (Own.step hbA (owx HO1.out))
   clear hK K hHeld1 hbA
   (try simp only [LO,Act.put])
   refine tkH 7 ?_;(try simp only [LO,Act.put])
   refine wpAnyH_done kr ?_ _
   all_goals
    go_wp2_with fail
    go_roundw
    case rel=>exact ⟨k+1,qo,qg,(owx (HO0'.out)),(owx (HO1'.out)),bll⟩
    case measure=>exact qn
  ·obtain rfl:k=4:=by omega
   go_wp2_with fail
   go_ret
   exact ⟨rfl,HB.out⟩
theorem L_eqPatch (p:Za1) (w:World):Calls Tryz.prog 143 #[.agg ⟨c12 p⟩,.agg ⟨c12 p⟩] w λe w'=>e=.returned (.bool true)/\Below w.heap.size w w':=by
 have HA0:=qh (Own ((w.alloc (.cells ⟨c12 p⟩ 43)).alloc (.cells ⟨c12 p⟩ 43)) w.heap.size 43 (c12 p)) (Own.alloc (Own.new w _ _) _)
 have HA1:=qh (Own ((w.alloc (.cells ⟨c12 p⟩ 43)).alloc (.cells ⟨c12 p⟩ 43)) (w.heap.size+1) 43 (c12 p)) (Own.at_new (cs:=⟨c12 p⟩) qs)
 have HL0:=qh ((Instr.loadAt 41 (.pointer (some ⟨w.heap.size,0,none⟩))).run Tryz.prog ((w.alloc (.cells ⟨c12 p⟩ 43)).alloc (.cells ⟨c12 p⟩ 43))=.ok (.agg ⟨c12 p⟩) _) (Zal (P:=Tryz.prog) Tryz.underlying41 rfl (by rw [Zb5];kernel_rfl) (λj v hv=>by rw [Nat.zero_add,HA0.out.cell];exact hv))
 have HL1:=qh ((Instr.loadAt 41 (.pointer (some ⟨w.heap.size+1,0,none⟩))).run Tryz.prog ((w.alloc (.cells ⟨c12 p⟩ 43)).alloc (.cells ⟨c12 p⟩ 43))=.ok (.agg ⟨c12 p⟩) _) (Zal (P:=Tryz.prog) Tryz.underlying41 rfl (by rw [Zb5];kernel_rfl) (λj v hv=>by rw [Nat.zero_add,HA1.out.cell];exact hv))
 go_enter Tryz.func143,Tryz.ntmps143
 go_wp2_with (first|(refine Zaj rfl 41 (.tmp 5) rfl rfl HL0.out ?_)|(refine Zaj rfl 41 (.tmp 7) rfl rfl HL1.out ?_)|fail)
 refine (L_eqVecA4 p _).mono ?_
 rintro e wA ⟨rfl,hbA⟩
 go_wp2_with fail
 go_ret
 exact ⟨rfl,bll⟩
def c26 (p q:Za1) (sh rt:Int):List Value:=c12 p++(c12 q++[.int .i64 sh,.int .i64 rt])
theorem Zdh (p q:Za1) (sh rt:Int):(c26 p q sh rt).length=26:=by simp [c26,Zb5]
theorem c26_p {p q:Za1} {sh rt:Int} {j:Nat} {v:Value} (h:(c12 p)[j]? = some v):(c26 p q sh rt)[j]? = some v:=by
 have hj:j<(c12 p).length:=(List.getElem?_eq_some_iff.1 h).1
 unfold c26
 rw [List.getElem?_append_left hj];exact h
theorem c26_q {p q:Za1} {sh rt:Int} {j:Nat} {v:Value} (h:(c12 q)[j]? = some v):(c26 p q sh rt)[12+j]? = some v:=by
 have hj:j<(c12 q).length:=(List.getElem?_eq_some_iff.1 h).1
 unfold c26
 rw [List.getElem?_append_right (by rw [Zb5];omega),Zb5,show 12+j-12=j by omega,List.getElem?_append_left hj];exact h
def surfE:Elem Zdz where
 sz:=26
 P:=λlo w ys x=>ys=c26 x.1 x.2.1 x.2.2.1 x.2.2.2
 len:=by rintro lo w ys x rfl;exact Zdh _ _ _ _
 one:=by rintro lo w ys x rfl;rfl
 keep:=by rintro lo w w' ys x h hu;exact h
 mono:=by rintro lo lo' w ys x h hl;exact h
theorem T.infoSurf3:(Tryz.prog.info? 45).map (λi=>(i.zero,i.size,i.bytes))=some (some (.agg ⟨z26⟩),26,208):=kr
theorem L_eqSurface {lo lo':Nat} {ys ys':List Value} {x:Zdz} (w:World) (h:surfE.P lo w ys x) (h':surfE.P lo' w ys' x) :
  Calls Tryz.prog 83 #[.agg ⟨ys⟩,.agg ⟨ys'⟩] w λe w'=>e=.returned (.bool true)/\Below w.heap.size w w':=by
 obtain ⟨p,q,sh,rt⟩:=x
 obtain rfl:ys=c26 p q sh rt:=h
 obtain rfl:ys'=c26 p q sh rt:=h'
 have HA0:=qh (Own ((w.alloc (.cells ⟨c26 p q sh rt⟩ 45)).alloc (.cells ⟨c26 p q sh rt⟩ 45)) w.heap.size 45 (c26 p q sh rt)) (Own.alloc (Own.new w _ _) _)
 have HA1:=qh (Own ((w.alloc (.cells ⟨c26 p q sh rt⟩ 45)).alloc (.cells ⟨c26 p q sh rt⟩ 45)) (w.heap.size+1) 45 (c26 p q sh rt)) (Own.at_new (cs:=⟨c26 p q sh rt⟩) qs)
 have HLP:=qh (∀ wx b,Own wx b 45 (c26 p q sh rt)->(Instr.loadAt 43 (.pointer (some ⟨b,0,none⟩))).run Tryz.prog wx=.ok (.agg ⟨c12 p⟩) wx) (λwx b ho=>Zal (P:=Tryz.prog) Tryz.underlying43 rfl (by rw [Zb5];kernel_rfl) (λj v hv=>by rw [Nat.zero_add,ho.cell];exact c26_p hv))
 have HLQ:=qh (∀ wx b,Own wx b 45 (c26 p q sh rt)->(Instr.loadAt 43 (.pointer (some ⟨b,12,none⟩))).run Tryz.prog wx=.ok (.agg ⟨c12 q⟩) wx) (λwx b ho=>Zal (P:=Tryz.prog) Tryz.underlying43 rfl (by rw [Zb5];kernel_rfl) (λj v hv=>by rw [ho.cell];exact c26_q hv))
 have e1:(sh != sh)=false:=qs
 have e2:(rt != rt)=false:=qs
 go_enter Tryz.func83,Tryz.ntmps83
 go_wp2_with (first|(refine Zaj rfl 43 (.tmp 5) rfl rfl (HLP.out _ _ HA0.out) ?_)|(refine Zaj rfl 43 (.tmp 7) rfl rfl (HLP.out _ _ HA1.out) ?_)|fail)
 refine (L_eqPatch p _).mono ?_
 rintro e wA ⟨rfl,hbA⟩
 have HB0:=qh (Own wA w.heap.size 45 (c26 p q sh rt)) (Own.step hbA HA0.out)
 have HB1:=qh (Own wA (w.heap.size+1) 45 (c26 p q sh rt)) (Own.step hbA HA1.out)
 have HBA:=bh w hbA
 clear hbA HA0 HA1
 go_wp2_with (first|(refine Zaj rfl 43 (.tmp 11) rfl rfl (HLQ.out _ _ HB0.out) ?_)|(refine Zaj rfl 43 (.tmp 13) rfl rfl (HLQ.out _ _ HB1.out) ?_)|fail)
 refine (L_eqPatch q _).mono ?_
 rintro e wB ⟨rfl,hbB⟩
 have HC0:Own wB w.heap.size 45 (c26 p q sh rt):=Own.step hbB HB0.out
 have HC1:Own wB (w.heap.size+1) 45 (c26 p q sh rt):=Own.step hbB HB1.out
 have x24:wB.cell? ⟨w.heap.size,24,none⟩=some (.int .i64 sh):=HC0.cell 24
 have x25:wB.cell? ⟨w.heap.size,25,none⟩=some (.int .i64 rt):=HC0.cell 25
 have y24:wB.cell? ⟨w.heap.size+1,24,none⟩=some (.int .i64 sh):=HC1.cell 24
 have y25:wB.cell? ⟨w.heap.size+1,25,none⟩=some (.int .i64 rt):=HC1.cell 25
 have HBB:=qh (Below w.heap.size w wB) (Below.step hbB HBA.out HBA.out.size)
 clear hbB HC0 HC1
 go_wp2_with fail
 go_ret
 exact ⟨rfl,HBB.out⟩
theorem L_eqSurfaceS {lo lo':Nat} {A A2:Option Addr} {c c2:Nat} {l:List Zdz} (w:World) (h:RowL surfE lo w (.slice A l.length c) l) (h':RowL surfE lo' w (.slice A2 l.length c2) l) :
  Calls Tryz.prog 31 #[.slice A l.length c,.slice A2 l.length c2] w λe w'=>e=.returned (.bool true)/\Below w.heap.size w w':=by
 obtain ⟨A0,c0,e0,hlc,hcm⟩:=h.slice
 injection e0 with e1 e2 e3
 subst e1;subst e3
 unfold maxLen at hcm
 have H0:=hdQ h
 have H1:=hdQ h'
 have hne:((l.length:Int) != (l.length:Int))=false:=qs
 clear h h' e2
 go_enter Tryz.func31,Tryz.ntmps31
 go_wp2_with fail
 go_loopw [5] (λi wr=>∃ k:Nat,k<=l.length/\i=.int .i64 k/\Below w.heap.size w wr) (λi _=>l.length-(RowKit.intOf i).toNat)
 case atStart=>exact ⟨0,Nat.zero_le _,rfl,bll⟩
 case round =>
  obtain ⟨k,hk,rfl,hb⟩:=hrel
  obtain ⟨wo,rfl⟩:=qe wr
  have hz:=hb.size
  have HB:=hdQ hb
  clear hb
  by_cases hlt:k<l.length
  ·obtain ⟨b,o,ys,rfl,hbh,hyl,hp,hcell⟩:=(H0.out.step HB.out).at_ hlt
   obtain ⟨b',o',ys',rfl,hbh',hyl',hp',hcell'⟩:=(H1.out.step HB.out).at_ hlt
   have HLD:=qh (∀ wx,(∀ o,wx.cell? ⟨b,o,none⟩=wo.cell? ⟨b,o,none⟩)->(Instr.loadAt 45 (.pointer (some ⟨b,o+k*26,none⟩))).run Tryz.prog wx=.ok (.agg ⟨ys⟩) wx) (λwx hx=>Zal (P:=Tryz.prog) Tryz.underlying45 rfl (by rw [hyl];kernel_rfl) (λj v hv=>by rw [hx];exact hcell j v hv))
   have HLD':Hid (∀ wx,(∀ o,wx.cell? ⟨b',o,none⟩=wo.cell? ⟨b',o,none⟩)->(Instr.loadAt 45 (.pointer (some ⟨b',o'+k*26,none⟩))).run Tryz.prog wx=.ok (.agg ⟨ys'⟩) wx):=hdQ (λwx hx=>Zal (P:=Tryz.prog) Tryz.underlying45 rfl (by rw [hyl'];kernel_rfl) (λj v hv=>by rw [hx];exact hcell' j v hv))
   have HC:=qh (∀ wx,Below wo.heap.size wo wx->CB_ Tryz.prog 83 #[.agg ⟨ys⟩,.agg ⟨ys'⟩] wx (.bool true)) (λwx hb=>L_eqSurface wx (surfE.keep hp (Up.of_below hb)) (surfE.keep hp' (Up.of_below hb)))
   have i1:(k:Int)<l.length:=qo
   have i2:(0:Int)<=k:=qo
   clear hcell hp hyl hcell' hp' hyl'
   generalize Value.agg ⟨ys⟩=V at *
   generalize Value.agg ⟨ys'⟩=V' at *
   go_upto_region 6 with fail
   refine wp_region_held_drew (S:=λw'=>(Instr.loadAt 45 (.pointer (some ⟨b,o+k*26,none⟩))).run Tryz.prog w'=.ok V w'/\(Instr.loadAt 45 (.pointer (some ⟨b',o'+k*26,none⟩))).run Tryz.prog w'=.ok V' w') kr ?_ (λhHeld1=>?_)
   ·exact ⟨HLD.out _ (λ_=>rfl),HLD'.out _ (λ_=>rfl)⟩
   refine tkH 0 ?_;(try simp only [LO,Act.put])
   refine tkH 1 ?_;(try simp only [LO,Act.put])
   refine tkH 2 ?_;(try simp only [LO,Act.put])
   (refine wpAnyH_take (i:=3) (v:=V) rfl kr kr kr (λ_ _ _ h=>h) (Or.inl ⟨qr,λw hSw=>Zcs rfl rfl hSw.1⟩) ‹_› ?_);(try simp only [LO,Act.put])
   refine tkH 4 ?_;(try simp only [LO,Act.put])
   refine tkH 5 ?_;(try simp only [LO,Act.put])
   refine tkH 6 ?_;(try simp only [LO,Act.put])
   (refine wpAnyH_take (i:=7) (v:=V') rfl kr kr kr (λ_ _ _ h=>h) (Or.inl ⟨qr,λw hSw=>Zcs rfl rfl hSw.2⟩) ‹_› ?_);(try simp only [LO,Act.put])
   refine wpAnyH_ready (rs:=[8]) kr qs ?_
   refine AllReadyH.cons rfl (λK hK=>?_) AllReadyH.nil
   go_simp
   (go_at_call 83;(refine (HC.out _ bll).mono ?_);rintro e wA ⟨rfl,hbA⟩)
   (try go_wp2_with fail)
   refine hK.out _ _ ?_ (λhHeld2=>?_)
   ·exact ⟨HLD.out _ (λp=>hbA.cell (p:=⟨b,p,none⟩) (by simpa using hbh)),HLD'.out _ (λp=>hbA.cell (p:=⟨b',p,none⟩) (by simpa using hbh'))⟩
   have HB2:=bh w hbA
   clear hK K hHeld1 hbA
   (try simp only [LO,Act.put])
   refine tkH 9 ?_;(try simp only [LO,Act.put])
   refine wpAnyH_done kr ?_ _
   all_goals
    go_wp2_with fail
    go_roundw
    case rel=>exact ⟨k+1,qo,qg,bll⟩
    case measure=>exact qn
  ·obtain rfl:k=l.length:=by omega
   go_wp2_with fail
   go_ret
   exact ⟨rfl,HB.out⟩
theorem RowL.nodes {lo:Nat} {w:World} {A:Option Addr} {c:Nat} {l:List Zac} (h:RowL nodeE lo w (.slice A l.length c) l):NodesIn w A c l:=by
 obtain ⟨A0,c0,e0,hlc,hcm⟩:=h.slice
 injection e0 with e1 e2 e3
 subst e1;subst e3
 refine ⟨hlc,hcm,λi hi=>?_⟩
 obtain ⟨b,o,ys,hA,hb,hyl,hp,hcell⟩:=h.at_ hi
 obtain ⟨A',c',rfl,hs,hr,_⟩:=hp
 exact ⟨b,o,A',c',hA,hb,hs,hr,hcell 0 _ rfl,hcell 1 _ rfl,hcell 2 _ rfl,hcell 3 _ rfl⟩
theorem RowL.assigns {lo:Nat} {w:World} {A:Option Addr} {c:Nat} {l:List Zaa} (h:RowL assE lo w (.slice A l.length c) l):Zew w A c l:=by
 obtain ⟨A0,c0,e0,hlc,hcm⟩:=h.slice
 injection e0 with e1 e2 e3
 subst e1;subst e3
 refine ⟨hlc,hcm,λi hi=>?_⟩
 obtain ⟨b,o,ys,hA,hb,hyl,hp,hcell⟩:=h.at_ hi
 obtain ⟨rfl,hs⟩:=hp
 exact ⟨b,o,hA,hb,hs,hcell 0 _ rfl,hcell 1 _ rfl⟩
theorem RowL.progs {lo:Nat} {w:World} {A:Option Addr} {c:Nat} {l:List Zae} (h:RowL progE lo w (.slice A l.length c) l) (hB:∀ x∈l,progB x):ProgsIn w A c l:=by
 obtain ⟨A0,c0,e0,hlc,hcm⟩:=h.slice
 injection e0 with e1 e2 e3
 subst e1;subst e3
 refine ⟨hlc,hcm,λi hi=>?_⟩
 obtain ⟨b,o,ys,hA,hb,hyl,hp,hcell⟩:=h.at_ hi
 obtain ⟨u,v,rfl,h1,h2⟩:=hp
 obtain ⟨A1,c1,rfl,_⟩:=h1.slice
 obtain ⟨A2,c2,rfl,_⟩:=h2.slice
 have hx:=hB _ (List.getElem_mem hi)
 exact ⟨b,o,A1,c1,A2,c2,hA,hb,⟨h1.nodes,h2.assigns⟩,hx.1.1,hx.2.1,hcell 0 _ rfl,hcell 1 _ rfl⟩
theorem RowL.surfs {lo:Nat} {w:World} {A:Option Addr} {c:Nat} {l:List Zdz} (h:RowL surfE lo w (.slice A l.length c) l):SurfsIn w A c l:=by
 obtain ⟨A0,c0,e0,hlc,hcm⟩:=h.slice
 injection e0 with e1 e2 e3
 subst e1;subst e3
 refine ⟨hlc,hcm,λi hi=>?_⟩
 obtain ⟨b,o,ys,hA,hb,hyl,hp,hcell⟩:=h.at_ hi
 obtain rfl:ys=cSurf l[i].1 l[i].2.1 l[i].2.2.1 l[i].2.2.2:=hp
 exact ⟨b,o,hA,hb,⟨hcell 0 _ rfl,hcell 1 _ rfl,hcell 2 _ rfl,hcell 3 _ rfl,hcell 4 _ rfl,hcell 5 _ rfl,hcell 6 _ rfl,hcell 7 _ rfl,hcell 8 _ rfl,hcell 9 _ rfl,hcell 10 _ rfl,hcell 11 _ rfl,hcell 12 _ rfl,hcell 13 _ rfl,hcell 14 _ rfl,hcell 15 _ rfl,hcell 16 _ rfl,hcell 17 _ rfl,hcell 18 _ rfl,hcell 19 _ rfl,hcell 20 _ rfl,hcell 21 _ rfl,hcell 22 _ rfl,hcell 23 _ rfl,hcell 24 _ rfl,hcell 25 _ rfl⟩⟩
structure SceneL (lo:Nat) (w:World) (s:EScene) (T:Option Addr) (tc:Nat) (P:Option Addr) (pc:Nat) (Q:Option Addr) (qc:Nat):Prop where
 tex:RS w 1 T s.tex.length tc (ints s.tex)
 texl:lowA lo T
 ps:RowL progE lo w (.slice P s.ps.length pc) s.ps
 ss:RowL surfE lo w (.slice Q s.ss.length qc) s.ss
theorem SceneL.keep {lo:Nat} {w w':World} {s:EScene} {T P Q:Option Addr} {tc pc qc:Nat} (h:SceneL lo w s T tc P pc Q qc) (hu:Up lo w w'):SceneL lo w' s T tc P pc Q qc:=⟨h.tex.up h.texl hu,h.texl,h.ps.keep hu,h.ss.keep hu⟩
theorem SceneL.step {lo:Nat} {w w':World} {s:EScene} {T P Q:Option Addr} {tc pc qc:Nat} (hb:Below w.heap.size w w') (h:SceneL lo w s T tc P pc Q qc):SceneL lo w' s T tc P pc Q qc:=h.keep (Up.of_below hb)
theorem SceneL.mono {lo lo':Nat} {w:World} {s:EScene} {T P Q:Option Addr} {tc pc qc:Nat} (h:SceneL lo w s T tc P pc Q qc) (hl:lo'<=lo):SceneL lo' w s T tc P pc Q qc:=⟨h.tex,λx hx=>Nat.le_trans hl (h.texl x hx),h.ps.mono hl,h.ss.mono hl⟩
def cS (s:EScene) (T:Option Addr) (tc:Nat) (P:Option Addr) (pc:Nat) (Q:Option Addr) (qc:Nat):List Value:=cScene s T tc P pc Q qc
def zS:List Value:=[.int .i64 0,.int .i64 0,.int .i64 0,.int .i64 0,.bool false,.int .i64 0,.int .i64 0,.int .i64 0,.slice none 0 0,.slice none 0 0,.slice none 0 0,.int .i64 0]
def cCam (s:EScene):List Value:=[.int .i64 s.a,.int .i64 s.b,.int .i64 s.c,.int .i64 s.d,.bool s.e,.int .i64 s.f,.int .i64 s.g]
theorem Zce:(Tryz.prog.info? 30).map (·.size)=some 12:=kr
theorem zz_camI:(Tryz.prog.info? 23).map (·.size)=some 7:=kr
theorem zz_texI:(Tryz.prog.info? 26).map (·.size)=some 2:=kr
theorem cS_cam {s:EScene} {T P Q:Option Addr} {tc pc qc j:Nat} {v:Value} (h:(cCam s)[j]? = some v):(cS s T tc P pc Q qc)[j]? = some v:=by
 have hj:j<(cCam s).length:=(List.getElem?_eq_some_iff.1 h).1
 show (cCam s++[.int .i64 s.log,.slice T s.tex.length tc,.slice P s.ps.length pc,.slice Q s.ss.length qc,.int .i64 s.side])[j]? = some v
 rw [List.getElem?_append_left hj];exact h
theorem cS_tex {s:EScene} {T P Q:Option Addr} {tc pc qc j:Nat} {v:Value} (h:([.int .i64 s.log,.slice T s.tex.length tc]:List Value)[j]? = some v):(cS s T tc P pc Q qc)[7+j]? = some v:=by
 match j,h with
 | 0,h=>exact h
 | 1,h=>exact h
set_option maxHeartbeats 16000000 in
theorem L_eqScene {lo lo':Nat} {s:EScene} {T P Q T2 P2 Q2:Option Addr} {tc pc qc tc2 pc2 qc2:Nat} (w:World) (h:SceneL lo w s T tc P pc Q qc) (h':SceneL lo' w s T2 tc2 P2 pc2 Q2 qc2) :
  Calls Tryz.prog 7 #[.agg ⟨cS s T tc P pc Q qc⟩,.agg ⟨cS s T2 tc2 P2 pc2 Q2 qc2⟩] w λe w'=>e=.returned (.bool true)/\Below w.heap.size w w':=by
 have HCAM:=qh (∀ wx,CB_ Tryz.prog 28 #[.agg ⟨cCam s⟩,.agg ⟨cCam s⟩] wx (.bool true)) (λwx=>L_eqCamera s.a s.b s.c s.d s.e s.f s.g wx)
 have HTEX:=qh (∀ wx,Below w.heap.size w wx->CB_ Tryz.prog 29 #[.agg ⟨[.int .i64 s.log,.slice T s.tex.length tc]⟩,.agg ⟨[.int .i64 s.log,.slice T2 s.tex.length tc2]⟩] wx (.bool true)) (λwx hb=>L_eqTexture wx (RS.step hb h.tex) (RS.step hb h'.tex))
 have HPS:=qh (∀ wx,Below w.heap.size w wx->CB_ Tryz.prog 30 #[.slice P s.ps.length pc,.slice P2 s.ps.length pc2] wx (.bool true)) (λwx hb=>L_eqProgramS wx (h.ps.step hb) (h'.ps.step hb))
 have HSS:=qh (∀ wx,Below w.heap.size w wx->CB_ Tryz.prog 31 #[.slice Q s.ss.length qc,.slice Q2 s.ss.length qc2] wx (.bool true)) (λwx hb=>L_eqSurfaceS wx (h.ss.step hb) (h'.ss.step hb))
 have HA0:=qh (Own ((w.alloc (.cells ⟨cS s T tc P pc Q qc⟩ 30)).alloc (.cells ⟨cS s T2 tc2 P2 pc2 Q2 qc2⟩ 30)) w.heap.size 30 (cS s T tc P pc Q qc)) (Own.alloc (Own.new w _ _) _)
 have HA1:=qh (Own ((w.alloc (.cells ⟨cS s T tc P pc Q qc⟩ 30)).alloc (.cells ⟨cS s T2 tc2 P2 pc2 Q2 qc2⟩ 30)) (w.heap.size+1) 30 (cS s T2 tc2 P2 pc2 Q2 qc2)) (Own.at_new (cs:=⟨cS s T2 tc2 P2 pc2 Q2 qc2⟩) qs)
 have HLC:=qh (∀ wx b (T:Option Addr) tc P pc Q qc,Own wx b 30 (cS s T tc P pc Q qc)->(Instr.loadAt 23 (.pointer (some ⟨b,0,none⟩))).run Tryz.prog wx=.ok (.agg ⟨cCam s⟩) wx) (λwx b T tc P pc Q qc ho=>Zal (P:=Tryz.prog) Tryz.underlying23 rfl zz_camI (λj v hv=>by rw [Nat.zero_add,ho.cell];exact cS_cam hv))
 have HLT:=qh (∀ wx b (T:Option Addr) tc P pc Q qc,Own wx b 30 (cS s T tc P pc Q qc)->(Instr.loadAt 26 (.pointer (some ⟨b,7,none⟩))).run Tryz.prog wx=.ok (.agg ⟨[.int .i64 s.log,.slice T s.tex.length tc]⟩) wx) (λwx b T tc P pc Q qc ho=>Zal (P:=Tryz.prog) Tryz.underlying26 rfl zz_texI (λj v hv=>by rw [ho.cell];exact cS_tex hv))
 have e1:(s.side != s.side)=false:=qs
 clear h h'
 go_enter Tryz.func7,Tryz.ntmps7
 go_wp2_with (first|(refine Zaj rfl 23 (.tmp 5) rfl rfl (HLC.out _ _ _ _ _ _ _ _ HA0.out) ?_)|(refine Zaj rfl 23 (.tmp 7) rfl rfl (HLC.out _ _ _ _ _ _ _ _ HA1.out) ?_)|fail)
 refine (HCAM.out _).mono ?_
 rintro e wB ⟨rfl,hbB⟩
 have HB0:=qh (Own wB w.heap.size 30 (cS s T tc P pc Q qc)) (Own.step hbB HA0.out)
 have HB1:=qh (Own wB (w.heap.size+1) 30 (cS s T2 tc2 P2 pc2 Q2 qc2)) (Own.step hbB HA1.out)
 have HBB:=bh w hbB
 clear hbB HA0 HA1
 go_wp2_with (first|(refine Zaj rfl 26 (.tmp 11) rfl rfl (HLT.out _ _ _ _ _ _ _ _ HB0.out) ?_)|(refine Zaj rfl 26 (.tmp 13) rfl rfl (HLT.out _ _ _ _ _ _ _ _ HB1.out) ?_)|fail)
 refine (HTEX.out _ HBB.out).mono ?_
 rintro e wC ⟨rfl,hbC⟩
 have HC0:=qh (Own wC w.heap.size 30 (cS s T tc P pc Q qc)) (Own.step hbC HB0.out)
 have HC1:=qh (Own wC (w.heap.size+1) 30 (cS s T2 tc2 P2 pc2 Q2 qc2)) (Own.step hbC HB1.out)
 have HBC:=qh (Below w.heap.size w wC) (Below.step hbC HBB.out HBB.out.size)
 have t9:wC.cell? ⟨w.heap.size,9,none⟩=some (.slice P s.ps.length pc):=HC0.out.cell 9
 have u9:wC.cell? ⟨w.heap.size+1,9,none⟩=some (.slice P2 s.ps.length pc2):=HC1.out.cell 9
 have lC:w.heap.size+1<wC.heap.size:=HC1.out.lt
 clear hbC HB0 HB1
 go_wp2_with fail
 refine (HPS.out _ HBC.out).mono ?_
 rintro e wD ⟨rfl,hbD⟩
 have HD0:=qh (Own wD w.heap.size 30 (cS s T tc P pc Q qc)) (Own.step hbD HC0.out)
 have HD1:=qh (Own wD (w.heap.size+1) 30 (cS s T2 tc2 P2 pc2 Q2 qc2)) (Own.step hbD HC1.out)
 have HBD:=qh (Below w.heap.size w wD) (Below.step hbD HBC.out HBC.out.size)
 have t10:wD.cell? ⟨w.heap.size,10,none⟩=some (.slice Q s.ss.length qc):=HD0.out.cell 10
 have u10:wD.cell? ⟨w.heap.size+1,10,none⟩=some (.slice Q2 s.ss.length qc2):=HD1.out.cell 10
 have lD:w.heap.size+1<wD.heap.size:=HD1.out.lt
 clear hbD HC0 HC1 t9 u9 lC
 go_wp2_with fail
 refine (HSS.out _ HBD.out).mono ?_
 rintro e wE ⟨rfl,hbE⟩
 have HE0:=qh (Own wE w.heap.size 30 (cS s T tc P pc Q qc)) (Own.step hbE HD0.out)
 have HE1:=qh (Own wE (w.heap.size+1) 30 (cS s T2 tc2 P2 pc2 Q2 qc2)) (Own.step hbE HD1.out)
 have HBE:=qh (Below w.heap.size w wE) (Below.step hbE HBD.out HBD.out.size)
 have t11:wE.cell? ⟨w.heap.size,11,none⟩=some (.int .i64 s.side):=HE0.out.cell 11
 have u11:wE.cell? ⟨w.heap.size+1,11,none⟩=some (.int .i64 s.side):=HE1.out.cell 11
 have lE:w.heap.size+1<wE.heap.size:=HE1.out.lt
 clear hbE HD0 HD1 t10 u10 lD
 go_wp2_with fail
 go_ret
 exact ⟨rfl,HBE.out⟩
end Go.Proofs.YticdknjoapdmeaaGreatDoor
