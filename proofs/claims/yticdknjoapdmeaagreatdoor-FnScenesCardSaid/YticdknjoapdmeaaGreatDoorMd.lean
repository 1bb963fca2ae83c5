/- Several texts in one: ProgA, SurfW, RowsU, RowsV, SceneL, LexS, LexT, Phase, ParM, MkTxt, ParMk, ParEq, ParMw, ScM, PVec, PPat, PPatI. -/
import Derived.Test.YticdknjoapdmeaaGreatDoorMa
import Derived.Test.YticdknjoapdmeaaGreatDoorMc
import Derived.BigQuiet
import Derived.Deep.Cut
import Derived.LoopTactic
import Derived.Lib.SlBytesConst
import Derived.Deep.RegionHeld3
import Derived.StillTail
import Derived.BigRegion
set_option linter.unusedVariables false
set_option linter.unusedSimpArgs false
set_option linter.unnecessarySimpa false
namespace Go.Proofs.YticdknjoapdmeaaGreatDoor
set_option maxHeartbeats 16000000
section
open Go.RowKit
def Zf3 (w:World) (A:OA) (c:Nat) (l:List Zac):Prop:=l.length<=c/\c<=maxLen/\∀ (i:Nat) (hi:i<l.length),∃ b o A' c',A=some ⟨b,o,none⟩/\b<w.heap.size/\l[i].2.1.length<=maxLen/\RS w 1 A' l[i].2.2.2.length c' (ints l[i].2.2.2) /\
 w.cell? ⟨b,o+i*4,none⟩=some (.int .i64 l[i].1)/\w.cell? ⟨b,o+i*4+1,none⟩=some (str l[i].2.1)/\w.cell? ⟨b,o+i*4+2,none⟩=some (.int .i64 l[i].2.2.1)/\w.cell? ⟨b,o+i*4+3,none⟩=some (.slice A' l[i].2.2.2.length c')
def Zc3 (w:World) (A:OA) (c:Nat) (l:List Zab):Prop:=l.length<=c/\c<=maxLen/\∀ (i:Nat) (hi:i<l.length),∃ b o,A=some ⟨b,o,none⟩/\b<w.heap.size/\l[i].1.length<=maxLen /\
 w.cell? ⟨b,o+i*2,none⟩=some (str l[i].1)/\w.cell? ⟨b,o+i*2+1,none⟩=some (.int .i64 l[i].2)
theorem Zf3.step {w w':World} {A:OA} {c:Nat} {l:List Zac} (hb:Bw w w') (h:Zf3 w A c l):Zf3 w' A c l:=by
 refine ⟨h.1,h.2.1,λi hi=>?_⟩
 obtain ⟨b,o,A',c',h1,h2,h3,h4,h5,h6,h7,h8⟩:=h.2.2 i hi
 have hz:=hb.size
 exact ⟨b,o,A',c',h1,qo,h3,RS.step hb h4,(hb.cell (p:=⟨b,_,none⟩) h2).trans h5,(hb.cell (p:=⟨b,_,none⟩) h2).trans h6,(hb.cell (p:=⟨b,_,none⟩) h2).trans h7,(hb.cell (p:=⟨b,_,none⟩) h2).trans h8⟩
theorem Zc3.step {w w':World} {A:OA} {c:Nat} {l:List Zab} (hb:Bw w w') (h:Zc3 w A c l):Zc3 w' A c l:=by
 refine ⟨h.1,h.2.1,λi hi=>?_⟩
 obtain ⟨b,o,h1,h2,h3,h4,h5⟩:=h.2.2 i hi
 have hz:=hb.size
 exact ⟨b,o,h1,qo,h3,(hb.cell (p:=⟨b,_,none⟩) h2).trans h4,(hb.cell (p:=⟨b,_,none⟩) h2).trans h5⟩
theorem Zhv.in_ {w:World} {v:Value} {l:List Zac} (h:Zhv w v l):∃ A c,v=.slice A l.length c/\Zf3 w A c l:=by
 obtain ⟨A,c,rfl,h1,h2,h3⟩:=Zg8.open_ h
 refine ⟨A,c,rfl,h1,h2,λi hi=>?_⟩
 obtain ⟨b,o,cs,hA,hb,⟨u,rfl,hs,A',c',rfl,hr⟩,hl,hc⟩:=h3 i hi
 refine ⟨b,o,A',c',hA,hb,hs,hr, ?_, ?_, ?_, ?_⟩
 ·have:=hc 0 qo;simpa using this
 ·have:=hc 1 qo;rw [<- Nat.add_assoc] at this;simpa using this
 ·have:=hc 2 qo;rw [<- Nat.add_assoc] at this;simpa using this
 ·have:=hc 3 qo;rw [<- Nat.add_assoc] at this;simpa using this
theorem Zeq.in_ {w:World} {v:Value} {l:List Zab} (h:Zeq w v l):∃ A c,v=.slice A l.length c/\Zc3 w A c l:=by
 obtain ⟨A,c,rfl,h1,h2,h3⟩:=Zg8.open_ h
 refine ⟨A,c,rfl,h1,h2,λi hi=>?_⟩
 obtain ⟨b,o,cs,hA,hb,⟨rfl,hs⟩,hl,hc⟩:=h3 i hi
 refine ⟨b,o,hA,hb,hs, ?_, ?_⟩
 ·have:=hc 0 qo;simpa using this
 ·have:=hc 1 qo;rw [<- Nat.add_assoc] at this;simpa using this
abbrev Zbz (A:OA) (n c:Nat) (A2:OA) (n2 c2:Nat):Value:=.agg #[.slice A n c,.slice A2 n2 c2]
def Zcd (w:World) (A:OA) (c:Nat) (A2:OA) (c2:Nat) (p:Zag):Prop:=Zf3 w A c p.1/\Zc3 w A2 c2 p.2
theorem Zcd.step {w w':World} {A A2:OA} {c c2:Nat} {p:Zag} (hb:Bw w w') (h:Zcd w A c A2 c2 p):Zcd w' A c A2 c2 p:=⟨h.1.step hb,h.2.step hb⟩
def Zfz (n:Nat) (us:List Nat):List Int:=(List.range n).map λx=>(us.count x:Int)
theorem Zfy {n:Nat} {us:List Nat} {x:Nat} (h:x<n):(ints (Zfz n us))[x]? = some (.int .i64 (us.count x:Int)):=by simp [Zfz,h]
theorem Zif {n:Nat} {us:List Nat} {a:Nat} (h:a<n):(ints (Zfz n us)).set a (.int .i64 ((us.count a:Int)+1))=ints (Zfz n (us++[a])):=by
 apply List.ext_getElem?
 intro j
 by_cases hj:j<n
 ·by_cases e:a=j
  ·subst e
   rw [List.getElem?_set_self (by simp [Zfz];exact h),Zfy h,List.count_append]
   simp
  ·rw [List.getElem?_set_ne e,Zfy hj,Zfy hj,List.count_append,List.count_cons]
   have:¬ a==j:=by simpa using e
   simp [this]
 ·rw [List.getElem?_eq_none (by simp [Zfz];omega),List.getElem?_eq_none (by simp [Zfz];omega)]
theorem Ztb (n:Nat):Zfz n []=List.replicate n 0:=by
 apply List.ext_getElem
 ·simp [Zfz]
 ·intro i h1 h2;simp [Zfz]
def Zao (p:Zag) (k:Nat):List Nat:=((Zce p).take k).flatten
theorem Zfv {p:Zag} {k:Nat} (h:k<p.1.length):Zao p (k+1)=Zao p k++p.1[k].2.2.2.map Int.toNat:=by
 unfold Zao
 rw [List.take_succ_eq_append_getElem (by rw [Zb6];exact h),List.flatten_append]
 simp [Zce]
theorem Zgk (p:Zag):Zao p p.1.length=(Zce p).flatten:=by
 unfold Zao
 rw [<- Zb6 (p:=p),List.take_length]
def Zaz (p:Zag) (k:Nat):List Nat:=(Zce p).flatten++(Zdx p).take k
theorem Zh7 {p:Zag} {k:Nat} (h:k<p.2.length):Zaz p (k+1)=Zaz p k++[p.2[k].2.toNat]:=by
 unfold Zaz
 rw [List.take_succ_eq_append_getElem (by simp [Zdx];exact h),<- List.append_assoc]
 simp [Zdx]
theorem Zja (p:Zag):Zaz p p.2.length=Zhh p:=by
 unfold Zaz Zhh
 rw [List.take_of_length_le (by simp [Zdx])]
theorem Zmo {op:Int} {n:Nat} (h:Zay op n=true):n<=3:=by
 unfold Zay at h
 split at h
 ·have:=of_decide_eq_true h;omega
 ·split at h
  ·have:=of_decide_eq_true h;omega
  ·split at h
   ·have:=of_decide_eq_true h;omega
   ·split at h
    ·exact of_decide_eq_true h
    ·cases h
theorem Zek {x:Zac} {k:Nat} (h:Zb1 k x=true):x.2.2.2.length<=3/\∀ a∈x.2.2.2,0<=a/\a<k:=by
 unfold Zb1 Zbr Zd8 at h
 simp only [Bool.and_eq_true,List.all_eq_true] at h
 exact ⟨Zmo h.1.2,λa ha=>by have:=Za6 (h.2 a ha);omega⟩
theorem Zrd {p:Zag} {k m:Nat} (h:Za5 p m=true) (hk:k<m) (hm:m<=p.1.length):Zb1 k (p.1[k]'qo)=true:=by
 unfold Za5 at h
 rw [List.all_eq_true] at h
 have:=h (p.1[k]'qo,k) (List.mk_mem_zipIdx_iff_getElem?.2 (by rw [List.getElem?_take_of_lt hk];exact List.getElem?_eq_getElem _))
 exact this
theorem Zpn {p:Zag} {k m:Nat} (hkm:k<=m) (hm:m<=p.1.length) (h:Za5 p m=true):Za5 p k=true:=by
 induction m with
 | zero =>
  obtain rfl:k=0:=by omega
  exact h
 | succ m ih =>
  by_cases e:k=m+1
  ·subst e;exact h
  ·rw [Zeu qo] at h
   simp only [Bool.and_eq_true] at h
   exact ih qo qo h.1
theorem Zev {p:Zag}:∀ k,k<=p.1.length->Za5 p k=true->(Zao p k).length<=3*k
 | 0,_,_=>by simp [Zao]
 | k+1,hk,h=>by
  rw [Zfv qo,List.length_append,List.length_map]
  have h1:=(Zek (Zrd h (Nat.lt_succ_self k) hk)).1
  have h2:=Zev (p:=p) k qo (by rw [Zeu qo] at h;simp only [Bool.and_eq_true] at h;exact h.1)
  omega
theorem Zi9 {p:Zag} (h:Za5 p p.1.length=true) (k:Nat):(Zaz p k).length<=3*p.1.length+k:=by
 unfold Zaz
 rw [List.length_append,<- Zgk]
 have:=Zev p.1.length (Nat.le_refl _) h
 have:((Zdx p).take k).length<=k:=by simp;omega
 omega
theorem Zjy {l:List Nat} (a:Nat):l.count a<=l.length:=List.count_le_length
def Zet (us:List Nat) (k:Nat):Bool:=(List.range k).all λx=>us.count x==1
theorem Zko (us:List Nat) (k:Nat):Zet us (k+1)=(Zet us k&&us.count k==1):=by
 unfold Zet;rw [List.range_succ,List.all_append];simp
theorem Zpl {us:List Nat} {k n:Nat} (h:k<n) (hc:us.count k≠1):Zet us n=false:=by
 unfold Zet;rw [List.all_eq_false]
 exact ⟨k,List.mem_range.2 h,by simpa using hc⟩
theorem Zdd (p:Zag):Zas p=(decide (p.1.length<=60)&&Za5 p p.1.length&&Zbp p p.2.length&&Zet (Zhh p) p.1.length):=rfl
theorem Zmr {p:Zag} {k:Nat} (hk:k<p.1.length) (h:Zb1 k p.1[k]=false):Za5 p p.1.length=false:=by
 cases e:Za5 p p.1.length with
 | false=>rfl
 | true=>rw [Zct e hk] at h;cases h
theorem Zjf {p:Zag} {k:Nat} (hk:k<p.2.length) (h:Zby p.1.length p.2[k]=false):Zbp p p.2.length=false:=by
 cases e:Zbp p p.2.length with
 | false=>rfl
 | true=>rw [Ze5 e hk] at h;cases h
end
section
set_option maxRecDepth 100000
open Go.RowKit Go.Lib
abbrev vSurf (p q:Zau) (sh rt:Int):Value:=.agg #[.int .i64 (p 0),.int .i64 (p 1),.int .i64 (p 2),.int .i64 (p 3),.int .i64 (p 4),.int .i64 (p 5),.int .i64 (p 6),.int .i64 (p 7),.int .i64 (p 8),.int .i64 (p 9),.int .i64 (p 10),.int .i64 (p 11),.int .i64 (q 0),.int .i64 (q 1),.int .i64 (q 2),.int .i64 (q 3),.int .i64 (q 4),.int .i64 (q 5),.int .i64 (q 6),.int .i64 (q 7),.int .i64 (q 8),.int .i64 (q 9),.int .i64 (q 10),.int .i64 (q 11),.int .i64 sh,.int .i64 rt]
structure SurfAt (w:World) (b o:Nat) (p q:Zau) (sh rt:Int):Prop where
 p0:w.cell? ⟨b,o,none⟩=some (.int .i64 (p 0))
 p1:w.cell? ⟨b,o+1,none⟩=some (.int .i64 (p 1))
 p2:w.cell? ⟨b,o+2,none⟩=some (.int .i64 (p 2))
 p3:w.cell? ⟨b,o+3,none⟩=some (.int .i64 (p 3))
 p4:w.cell? ⟨b,o+4,none⟩=some (.int .i64 (p 4))
 p5:w.cell? ⟨b,o+5,none⟩=some (.int .i64 (p 5))
 p6:w.cell? ⟨b,o+6,none⟩=some (.int .i64 (p 6))
 p7:w.cell? ⟨b,o+7,none⟩=some (.int .i64 (p 7))
 p8:w.cell? ⟨b,o+8,none⟩=some (.int .i64 (p 8))
 p9:w.cell? ⟨b,o+9,none⟩=some (.int .i64 (p 9))
 p10:w.cell? ⟨b,o+10,none⟩=some (.int .i64 (p 10))
 p11:w.cell? ⟨b,o+11,none⟩=some (.int .i64 (p 11))
 q0:w.cell? ⟨b,o+12,none⟩=some (.int .i64 (q 0))
 q1:w.cell? ⟨b,o+13,none⟩=some (.int .i64 (q 1))
 q2:w.cell? ⟨b,o+14,none⟩=some (.int .i64 (q 2))
 q3:w.cell? ⟨b,o+15,none⟩=some (.int .i64 (q 3))
 q4:w.cell? ⟨b,o+16,none⟩=some (.int .i64 (q 4))
 q5:w.cell? ⟨b,o+17,none⟩=some (.int .i64 (q 5))
 q6:w.cell? ⟨b,o+18,none⟩=some (.int .i64 (q 6))
 q7:w.cell? ⟨b,o+19,none⟩=some (.int .i64 (q 7))
 q8:w.cell? ⟨b,o+20,none⟩=some (.int .i64 (q 8))
 q9:w.cell? ⟨b,o+21,none⟩=some (.int .i64 (q 9))
 q10:w.cell? ⟨b,o+22,none⟩=some (.int .i64 (q 10))
 q11:w.cell? ⟨b,o+23,none⟩=some (.int .i64 (q 11))
 s:w.cell? ⟨b,o+24,none⟩=some (.int .i64 sh)
 r:w.cell? ⟨b,o+25,none⟩=some (.int .i64 rt)
theorem SurfAt.below {w w':World} {B b o:Nat} {p q:Zau} {sh rt:Int} (h:SurfAt w b o p q sh rt) (hb:Below B w w') (hB:b<B):SurfAt w' b o p q sh rt :=
 ⟨(hb.cell (p:=⟨b,_,none⟩) hB).trans h.p0,(hb.cell (p:=⟨b,_,none⟩) hB).trans h.p1,(hb.cell (p:=⟨b,_,none⟩) hB).trans h.p2,(hb.cell (p:=⟨b,_,none⟩) hB).trans h.p3,(hb.cell (p:=⟨b,_,none⟩) hB).trans h.p4,(hb.cell (p:=⟨b,_,none⟩) hB).trans h.p5,(hb.cell (p:=⟨b,_,none⟩) hB).trans h.p6,(hb.cell (p:=⟨b,_,none⟩) hB).trans h.p7,(hb.cell (p:=⟨b,_,none⟩) hB).trans h.p8,(hb.cell (p:=⟨b,_,none⟩) hB).trans h.p9,(hb.cell (p:=⟨b,_,none⟩) hB).trans h.p10,(hb.cell (p:=⟨b,_,none⟩) hB).trans h.p11,(hb.cell (p:=⟨b,_,none⟩) hB).trans h.q0,(hb.cell (p:=⟨b,_,none⟩) hB).trans h.q1,(hb.cell (p:=⟨b,_,none⟩) hB).trans h.q2,(hb.cell (p:=⟨b,_,none⟩) hB).trans h.q3,(hb.cell (p:=⟨b,_,none⟩) hB).trans h.q4,(hb.cell (p:=⟨b,_,none⟩) hB).trans h.q5,(hb.cell (p:=⟨b,_,none⟩) hB).trans h.q6,(hb.cell (p:=⟨b,_,none⟩) hB).trans h.q7,(hb.cell (p:=⟨b,_,none⟩) hB).trans h.q8,(hb.cell (p:=⟨b,_,none⟩) hB).trans h.q9,(hb.cell (p:=⟨b,_,none⟩) hB).trans h.q10,(hb.cell (p:=⟨b,_,none⟩) hB).trans h.q11,(hb.cell (p:=⟨b,_,none⟩) hB).trans h.s,(hb.cell (p:=⟨b,_,none⟩) hB).trans h.r⟩
abbrev cSurf (p q:Zau) (sh rt:Int):List Value:=[.int .i64 (p 0),.int .i64 (p 1),.int .i64 (p 2),.int .i64 (p 3),.int .i64 (p 4),.int .i64 (p 5),.int .i64 (p 6),.int .i64 (p 7),.int .i64 (p 8),.int .i64 (p 9),.int .i64 (p 10),.int .i64 (p 11),.int .i64 (q 0),.int .i64 (q 1),.int .i64 (q 2),.int .i64 (q 3),.int .i64 (q 4),.int .i64 (q 5),.int .i64 (q 6),.int .i64 (q 7),.int .i64 (q 8),.int .i64 (q 9),.int .i64 (q 10),.int .i64 (q 11),.int .i64 sh,.int .i64 rt]
theorem SurfAt.cells {w:World} {b o:Nat} {p q:Zau} {sh rt:Int} (h:SurfAt w b o p q sh rt):∀ j v,(cSurf p q sh rt)[j]? = some v->w.cell? ⟨b,o+j,none⟩=some v:=by
 intro j v hv
 match j,hv with
 | 0,hv=>injection hv with hv;rw [<- hv];exact h.p0
 | 1,hv=>injection hv with hv;rw [<- hv];exact h.p1
 | 2,hv=>injection hv with hv;rw [<- hv];exact h.p2
 | 3,hv=>injection hv with hv;rw [<- hv];exact h.p3
 | 4,hv=>injection hv with hv;rw [<- hv];exact h.p4
 | 5,hv=>injection hv with hv;rw [<- hv];exact h.p5
 | 6,hv=>injection hv with hv;rw [<- hv];exact h.p6
 | 7,hv=>injection hv with hv;rw [<- hv];exact h.p7
 | 8,hv=>injection hv with hv;rw [<- hv];exact h.p8
 | 9,hv=>injection hv with hv;rw [<- hv];exact h.p9
 | 10,hv=>injection hv with hv;rw [<- hv];exact h.p10
 | 11,hv=>injection hv with hv;rw [<- hv];exact h.p11
 | 12,hv=>injection hv with hv;rw [<- hv];exact h.q0
 | 13,hv=>injection hv with hv;rw [<- hv];exact h.q1
 | 14,hv=>injection hv with hv;rw [<- hv];exact h.q2
 | 15,hv=>injection hv with hv;rw [<- hv];exact h.q3
 | 16,hv=>injection hv with hv;rw [<- hv];exact h.q4
 | 17,hv=>injection hv with hv;rw [<- hv];exact h.q5
 | 18,hv=>injection hv with hv;rw [<- hv];exact h.q6
 | 19,hv=>injection hv with hv;rw [<- hv];exact h.q7
 | 20,hv=>injection hv with hv;rw [<- hv];exact h.q8
 | 21,hv=>injection hv with hv;rw [<- hv];exact h.q9
 | 22,hv=>injection hv with hv;rw [<- hv];exact h.q10
 | 23,hv=>injection hv with hv;rw [<- hv];exact h.q11
 | 24,hv=>injection hv with hv;rw [<- hv];exact h.s
 | 25,hv=>injection hv with hv;rw [<- hv];exact h.r
 | j+26,hv=>simp at hv
def Zk7 (w:World) (A:OA) (c:Nat) (l:List Zbt):Prop:=l.length<=c/\c<=maxLen/\∀ (i:Nat) (hi:i<l.length),∃ b o,A=some ⟨b,o,none⟩/\b<w.heap.size/\SurfAt w b (o+i*26) l[i].1 l[i].2.1 l[i].2.2.1 l[i].2.2.2
theorem Zk7.step {w w':World} {A:OA} {c:Nat} {l:List Zbt} (hb:Bw w w') (h:Zk7 w A c l):Zk7 w' A c l:=by
 refine ⟨h.1,h.2.1,λi hi=>?_⟩
 obtain ⟨b,o,h1,h2,h3⟩:=h.2.2 i hi
 have hz:=hb.size
 exact ⟨b,o,h1,qo,h3.below hb h2⟩
def Zd6 (w:World) (A:OA) (c:Nat) (l:List Zag):Prop:=l.length<=c/\c<=maxLen/\∀ (i:Nat) (hi:i<l.length),∃ b o A1 c1 A2 c2,A=some ⟨b,o,none⟩/\b<w.heap.size/\Zcd w A1 c1 A2 c2 l[i]/\l[i].1.length<=1048576/\l[i].2.length<=1048576 /\
 w.cell? ⟨b,o+i*2,none⟩=some (.slice A1 l[i].1.length c1)/\w.cell? ⟨b,o+i*2+1,none⟩=some (.slice A2 l[i].2.length c2)
theorem Zd6.step {w w':World} {A:OA} {c:Nat} {l:List Zag} (hb:Bw w w') (h:Zd6 w A c l):Zd6 w' A c l:=by
 refine ⟨h.1,h.2.1,λi hi=>?_⟩
 obtain ⟨b,o,A1,c1,A2,c2,h1,h2,h3,h4,h5,h6,h7⟩:=h.2.2 i hi
 have hz:=hb.size
 exact ⟨b,o,A1,c1,A2,c2,h1,qo,h3.step hb,h4,h5,(hb.cell (p:=⟨b,_,none⟩) h2).trans h6,(hb.cell (p:=⟨b,_,none⟩) h2).trans h7⟩
abbrev Zj3 (s:EScene) (T:OA) (tc:Nat) (P:OA) (pc:Nat) (Q:OA) (qc:Nat):Value:=.agg #[.int .i64 s.a,.int .i64 s.b,.int .i64 s.c,.int .i64 s.d,.bool s.e,.int .i64 s.f,.int .i64 s.g,.int .i64 s.log,.slice T s.tex.length tc,.slice P s.ps.length pc,.slice Q s.ss.length qc,.int .i64 s.side]
abbrev Zxr (s:EScene) (T:OA) (tc:Nat) (P:OA) (pc:Nat) (Q:OA) (qc:Nat):List Value:=[.int .i64 s.a,.int .i64 s.b,.int .i64 s.c,.int .i64 s.d,.bool s.e,.int .i64 s.f,.int .i64 s.g,.int .i64 s.log,.slice T s.tex.length tc,.slice P s.ps.length pc,.slice Q s.ss.length qc,.int .i64 s.side]
structure SceneIn (w:World) (s:EScene) (T:OA) (tc:Nat) (P:OA) (pc:Nat) (Q:OA) (qc:Nat):Prop where
 tex:RS w 1 T s.tex.length tc (ints s.tex)
 ps:Zd6 w P pc s.ps
 ss:Zk7 w Q qc s.ss
theorem SceneIn.step {w w':World} {s:EScene} {T P Q:OA} {tc pc qc:Nat} (hb:Bw w w') (h:SceneIn w s T tc P pc Q qc):SceneIn w' s T tc P pc Q qc:=⟨RS.step hb h.tex,h.ps.step hb,h.ss.step hb⟩
theorem T.infoSurf:(Tryz.prog.info? 45).map (·.size)=some 26:=kr
theorem Zu1 (wx:World):(Instr.alloc 45 true (.tuple #[])).run Tryz.prog wx=.ok (.pointer (some ⟨wx.heap.size,0,none⟩)) (wx.alloc (.cells (Array.replicate 26 (.int .i64 0)) 45)):=kr
theorem Zsp {w:World} {b o:Nat} {p q:Zau} {sh rt:Int} (h:SurfAt w b o p q sh rt):∃ (w1 w2:World) (V:Value),V=vSurf p q sh rt/\(Instr.loadAt 45 (.pointer (some ⟨b,o,none⟩))).run Tryz.prog w=.ok V w/\(Instr.alloc 45 true (.tuple #[])).run Tryz.prog w=.ok (.pointer (some ⟨w.heap.size,0,none⟩)) w1 /\
  (Instr.storeAt 45 (.pointer (some ⟨w.heap.size,0,none⟩)) V).run Tryz.prog w1=.ok () w2/\(Instr.loadAt 45 (.pointer (some ⟨w.heap.size,0,none⟩))).run Tryz.prog w2=.ok V w2/\w2.heap.size=w.heap.size+1/\Bw w w2/\Own w2 w.heap.size 45 (cSurf p q sh rt) :=
 big_box (Array.replicate 26 (.int .i64 0)) Tryz.underlying45 rfl T.infoSurf Zu1 qs rfl h.cells
theorem I_rateOk (r:Int) (w:World):CL 140 #[.int .i64 r] w λe w'=>e=.returned (.bool (Zq4 r))/\w=w':=by
 go_enter Tryz.func140,Tryz.ntmps140
 go_wp2_with fail
 all_goals
  go_ret
  exact ⟨Zaf (by (try simp only [beq_iff_eq,beq_eq_false_iff_ne] at *);unfold Zq4;first|(simp_all;done)|(rw [Bool.eq_iff_iff];simp<;>omega)),rfl⟩
theorem I_sideOk (r:Int) (w:World):CL 78 #[.int .i64 r] w λe w'=>e=.returned (.bool (Zls r))/\w=w':=by
 go_enter Tryz.func78,Tryz.ntmps78
 go_wp2_with fail
 all_goals
  go_ret
  exact ⟨Zaf (by (try simp only [beq_iff_eq,beq_eq_false_iff_ne] at *);unfold Zls;first|(simp_all;done)|(rw [Bool.eq_iff_iff];simp<;>omega)),rfl⟩
theorem Zmi (n:Int) (p q:Zau) (sh rt:Int):Zch n (p,q,sh,rt)=(Zba p&&(Zba q&&(decide (0<=sh)&&(decide (sh<n)&&Zq4 rt)))):=rfl
theorem Zf7 (p q:Zau) (sh rt n:Int) (w:World) :
  CR 80 #[vSurf p q sh rt,.int .i64 n] w ((.bool (Zch n (p,q,sh,rt)))):=by
 have HR:=qh (∀ wx,CL 140 #[.int .i64 rt] wx λe w'=>e=.returned (.bool (Zq4 rt))/\wx=w') (λwx=>I_rateOk rt wx)
 rw [Zmi]
 have HA:=hdQ (Zfg p)
 have HC:=hdQ (Zfg q)
 cases h1:Zba p with
 | false =>
  have HP1:=qh (∀ wx,CR 99 #[Zbv p] wx (.bool false)) (λwx=>by have:=HA.out wx;rw [h1] at this;exact this)
  clear HA HC
  go_enter Tryz.func80,Tryz.ntmps80
  go_wp2_with (first|(go_at_call 99;(with_reducible refine (HP1.out _).mono ?_);rintro e w1 ⟨rfl,hb1⟩;have hz1:=hb1.size;(try simp at hz1);have c1:=λo=>hb1.cell (p:=⟨w.heap.size,o,none⟩) omm;have HB1:=bh w hb1;clear hb1)|fail)
  go_ret
  exact ⟨rfl,HB1.out⟩
 | true =>
  have HP1:=qh (∀ wx,CR 99 #[Zbv p] wx (.bool true)) (λwx=>by have:=HA.out wx;rw [h1] at this;exact this)
  cases h2:Zba q with
  | false =>
   have HP2:=qh (∀ wx,CR 99 #[Zbv q] wx (.bool false)) (λwx=>by have:=HC.out wx;rw [h2] at this;exact this)
   clear HA HC
   go_enter Tryz.func80,Tryz.ntmps80
   go_wp2_with (first|(go_at_call 99;(with_reducible refine (HP1.out _).mono ?_);rintro e w1 ⟨rfl,hb1⟩;have hz1:=hb1.size;(try simp at hz1);have c1:=λo=>hb1.cell (p:=⟨w.heap.size,o,none⟩) omm;have HB1:=bh w hb1;clear hb1)|(go_at_call 99;(with_reducible refine (HP2.out _).mono ?_);rintro e w2 ⟨rfl,hb2⟩;have hz2:=hb2.size;(try simp at hz2);have c2:=λo=>hb2.cell (p:=⟨w.heap.size,o,none⟩) omm;have HB2:=qh (Bw w w2) (Below.step hb2 HB1.out omm);clear hb2)|fail)
   go_ret
   exact ⟨rfl,HB2.out⟩
  | true =>
   have HP2:=qh (∀ wx,CR 99 #[Zbv q] wx (.bool true)) (λwx=>by have:=HC.out wx;rw [h2] at this;exact this)
   clear HA HC
   by_cases h3:0<=sh
   ·have e3:decide (0<=sh)=true:=decide_eq_true h3
    by_cases h4:sh<n
    ·have e4:decide (sh<n)=true:=decide_eq_true h4
     rw [e3,e4]
     go_enter Tryz.func80,Tryz.ntmps80
     go_wp2_with (first|(go_at_call 99;(with_reducible refine (HP1.out _).mono ?_);rintro e w1 ⟨rfl,hb1⟩;have hz1:=hb1.size;(try simp at hz1);have c1:=λo=>hb1.cell (p:=⟨w.heap.size,o,none⟩) omm;have HB1:=bh w hb1;clear hb1)|(go_at_call 99;(with_reducible refine (HP2.out _).mono ?_);rintro e w2 ⟨rfl,hb2⟩;have hz2:=hb2.size;(try simp at hz2);have c2:=λo=>hb2.cell (p:=⟨w.heap.size,o,none⟩) omm;have HB2:=qh (Bw w w2) (Below.step hb2 HB1.out omm);clear hb2)|(go_at_call 140;refine (HR.out _).mono ?_;rintro e w' ⟨rfl,rfl⟩)|fail)
     go_ret
     exact ⟨Zaf qs,HB2.out⟩
    ·have e4:decide (sh<n)=false:=decide_eq_false h4
     rw [e3,e4]
     go_enter Tryz.func80,Tryz.ntmps80
     go_wp2_with (first|(go_at_call 99;(with_reducible refine (HP1.out _).mono ?_);rintro e w1 ⟨rfl,hb1⟩;have hz1:=hb1.size;(try simp at hz1);have c1:=λo=>hb1.cell (p:=⟨w.heap.size,o,none⟩) omm;have HB1:=bh w hb1;clear hb1)|(go_at_call 99;(with_reducible refine (HP2.out _).mono ?_);rintro e w2 ⟨rfl,hb2⟩;have hz2:=hb2.size;(try simp at hz2);have c2:=λo=>hb2.cell (p:=⟨w.heap.size,o,none⟩) omm;have HB2:=qh (Bw w w2) (Below.step hb2 HB1.out omm);clear hb2)|fail)
     go_ret
     exact ⟨rfl,HB2.out⟩
   ·have e3:decide (0<=sh)=false:=decide_eq_false h3
    rw [e3]
    go_enter Tryz.func80,Tryz.ntmps80
    go_wp2_with (first|(go_at_call 99;(with_reducible refine (HP1.out _).mono ?_);rintro e w1 ⟨rfl,hb1⟩;have hz1:=hb1.size;(try simp at hz1);have c1:=λo=>hb1.cell (p:=⟨w.heap.size,o,none⟩) omm;have HB1:=bh w hb1;clear hb1)|(go_at_call 99;(with_reducible refine (HP2.out _).mono ?_);rintro e w2 ⟨rfl,hb2⟩;have hz2:=hb2.size;(try simp at hz2);have c2:=λo=>hb2.cell (p:=⟨w.heap.size,o,none⟩) omm;have HB2:=qh (Bw w w2) (Below.step hb2 HB1.out omm);clear hb2)|fail)
    go_ret
    exact ⟨rfl,HB2.out⟩
def c12 (p:Zau):List Value:=(List.range 12).map λj=>.int .i64 (p j)
theorem Zbs (p:Zau):(c12 p).length=12:=by simp [c12]
theorem Zrm (p:Zau):Zbv p=.agg ⟨c12 p⟩:=rfl
def z26:List Value:=List.replicate 26 (.int .i64 0)
def c26 (p q:Zau) (sh rt:Int):List Value:=c12 p++(c12 q++[.int .i64 sh,.int .i64 rt])
theorem Zb4 (p q:Zau) (sh rt:Int):(c26 p q sh rt).length=26:=by simp [c26,Zbs]
theorem Zlx {p q:Zau} {sh rt:Int} {j:Nat} {v:Value} (h:(c12 p)[j]? = some v):(c26 p q sh rt)[j]? = some v:=by
 have hj:j<(c12 p).length:=(List.getElem?_eq_some_iff.1 h).1
 unfold c26
 rw [List.getElem?_append_left hj];exact h
theorem c26_q {p q:Zau} {sh rt:Int} {j:Nat} {v:Value} (h:(c12 q)[j]? = some v):(c26 p q sh rt)[12+j]? = some v:=by
 have hj:j<(c12 q).length:=(List.getElem?_eq_some_iff.1 h).1
 unfold c26
 rw [List.getElem?_append_right (by rw [Zbs];omega),Zbs,show 12+j-12=j by omega,List.getElem?_append_left hj];exact h
def surfE:Elem Zbt where
 sz:=26
 P:=λlo w ys x=>ys=c26 x.1 x.2.1 x.2.2.1 x.2.2.2
 len:=by rintro lo w ys x rfl;exact Zb4 _ _ _ _
 one:=by rintro lo w ys x rfl;rfl
 keep:=by rintro lo w w' ys x h hu;exact h
 mono:=by rintro lo lo' w ys x h hl;exact h
theorem T.infoSurf3:(Tryz.prog.info? 45).map (λi=>(i.zero,i.size,i.bytes))=some (some (.agg ⟨z26⟩),26,208):=kr
theorem Ziq.nodes {lo:Nat} {w:World} {A:OA} {c:Nat} {l:List Zac} (h:Ziq nodeE lo w (.slice A l.length c) l):Zf3 w A c l:=by
 obtain ⟨A0,c0,e0,hlc,hcm⟩:=h.slice
 injection e0 with e1 e2 e3
 subst e1;subst e3
 refine ⟨hlc,hcm,λi hi=>?_⟩
 obtain ⟨b,o,ys,hA,hb,hyl,hp,hcell⟩:=h.at_ hi
 obtain ⟨A',c',rfl,hs,hr,_⟩:=hp
 exact ⟨b,o,A',c',hA,hb,hs,hr,hcell 0 _ rfl,hcell 1 _ rfl,hcell 2 _ rfl,hcell 3 _ rfl⟩
theorem Ziq.assigns {lo:Nat} {w:World} {A:OA} {c:Nat} {l:List Zab} (h:Ziq assE lo w (.slice A l.length c) l):Zc3 w A c l:=by
 obtain ⟨A0,c0,e0,hlc,hcm⟩:=h.slice
 injection e0 with e1 e2 e3
 subst e1;subst e3
 refine ⟨hlc,hcm,λi hi=>?_⟩
 obtain ⟨b,o,ys,hA,hb,hyl,hp,hcell⟩:=h.at_ hi
 obtain ⟨rfl,hs⟩:=hp
 exact ⟨b,o,hA,hb,hs,hcell 0 _ rfl,hcell 1 _ rfl⟩
theorem Ziq.progs {lo:Nat} {w:World} {A:OA} {c:Nat} {l:List Zag} (h:Ziq progE lo w (.slice A l.length c) l) (hB:∀ x∈l,Zws x):Zd6 w A c l:=by
 obtain ⟨A0,c0,e0,hlc,hcm⟩:=h.slice
 injection e0 with e1 e2 e3
 subst e1;subst e3
 refine ⟨hlc,hcm,λi hi=>?_⟩
 obtain ⟨b,o,ys,hA,hb,hyl,hp,hcell⟩:=h.at_ hi
 obtain ⟨u,v,rfl,h1,h2⟩:=hp
 obtain ⟨A1,c1,rfl,_⟩:=h1.slice
 obtain ⟨A2,c2,rfl,_⟩:=h2.slice
 have hx:=hB _ (List.getElem_mem hi)
 exact ⟨b,o,A1,c1,A2,c2,hA,hb,⟨h1.nodes,h2.assigns⟩,hx.1.1,hx.2.1,hcell 0 _ rfl,hcell 1 _ rfl⟩
theorem Ziq.surfs {lo:Nat} {w:World} {A:OA} {c:Nat} {l:List Zbt} (h:Ziq surfE lo w (.slice A l.length c) l):Zk7 w A c l:=by
 obtain ⟨A0,c0,e0,hlc,hcm⟩:=h.slice
 injection e0 with e1 e2 e3
 subst e1;subst e3
 refine ⟨hlc,hcm,λi hi=>?_⟩
 obtain ⟨b,o,ys,hA,hb,hyl,hp,hcell⟩:=h.at_ hi
 obtain rfl:ys=cSurf l[i].1 l[i].2.1 l[i].2.2.1 l[i].2.2.2:=hp
 exact ⟨b,o,hA,hb,⟨hcell 0 _ rfl,hcell 1 _ rfl,hcell 2 _ rfl,hcell 3 _ rfl,hcell 4 _ rfl,hcell 5 _ rfl,hcell 6 _ rfl,hcell 7 _ rfl,hcell 8 _ rfl,hcell 9 _ rfl,hcell 10 _ rfl,hcell 11 _ rfl,hcell 12 _ rfl,hcell 13 _ rfl,hcell 14 _ rfl,hcell 15 _ rfl,hcell 16 _ rfl,hcell 17 _ rfl,hcell 18 _ rfl,hcell 19 _ rfl,hcell 20 _ rfl,hcell 21 _ rfl,hcell 22 _ rfl,hcell 23 _ rfl,hcell 24 _ rfl,hcell 25 _ rfl⟩⟩
structure SceneL (lo:Nat) (w:World) (s:EScene) (T:OA) (tc:Nat) (P:OA) (pc:Nat) (Q:OA) (qc:Nat):Prop where
 tex:RS w 1 T s.tex.length tc (ints s.tex)
 texl:lowA lo T
 ps:Ziq progE lo w (.slice P s.ps.length pc) s.ps
 ss:Ziq surfE lo w (.slice Q s.ss.length qc) s.ss
theorem SceneL.keep {lo:Nat} {w w':World} {s:EScene} {T P Q:OA} {tc pc qc:Nat} (h:SceneL lo w s T tc P pc Q qc) (hu:Up lo w w'):SceneL lo w' s T tc P pc Q qc:=⟨h.tex.up h.texl hu,h.texl,h.ps.keep hu,h.ss.keep hu⟩
theorem SceneL.step {lo:Nat} {w w':World} {s:EScene} {T P Q:OA} {tc pc qc:Nat} (hb:Bw w w') (h:SceneL lo w s T tc P pc Q qc):SceneL lo w' s T tc P pc Q qc:=h.keep (Up.of_below hb)
theorem SceneL.mono {lo lo':Nat} {w:World} {s:EScene} {T P Q:OA} {tc pc qc:Nat} (h:SceneL lo w s T tc P pc Q qc) (hl:lo'<=lo):SceneL lo' w s T tc P pc Q qc:=⟨h.tex,λx hx=>Nat.le_trans hl (h.texl x hx),h.ps.mono hl,h.ss.mono hl⟩
def SceneB (s:EScene):Prop:=s.tex.length<=1048576/\(s.ps.length<=1048576/\∀ x∈s.ps,Zws x)/\s.ss.length<=1048576
theorem SceneL.in_ {lo:Nat} {w:World} {s:EScene} {T P Q:OA} {tc pc qc:Nat} (h:SceneL lo w s T tc P pc Q qc) (hB:SceneB s):SceneIn w s T tc P pc Q qc:=⟨h.tex,h.ps.progs hB.2.1.2,h.ss.surfs⟩
def cS (s:EScene) (T:OA) (tc:Nat) (P:OA) (pc:Nat) (Q:OA) (qc:Nat):List Value:=Zxr s T tc P pc Q qc
theorem Zbn (s:EScene) (T:OA) (tc:Nat) (P:OA) (pc:Nat) (Q:OA) (qc:Nat):(cS s T tc P pc Q qc).length=12:=rfl
def zS:List Value:=[.int .i64 0,.int .i64 0,.int .i64 0,.int .i64 0,.bool false,.int .i64 0,.int .i64 0,.int .i64 0,.slice none 0 0,.slice none 0 0,.slice none 0 0,.int .i64 0]
def cCam (s:EScene):List Value:=[.int .i64 s.a,.int .i64 s.b,.int .i64 s.c,.int .i64 s.d,.bool s.e,.int .i64 s.f,.int .i64 s.g]
theorem Za2:(Tryz.prog.info? 30).map (·.size)=some 12:=kr
theorem zz_camI:(Tryz.prog.info? 23).map (·.size)=some 7:=kr
theorem zz_texI:(Tryz.prog.info? 26).map (·.size)=some 2:=kr
theorem Znw {l:List UInt8} {i:Nat} {b:UInt8} (h:l[i]? = some b):∀ hh:i<ByteArray.size ⟨l.toArray⟩,({ data:=l.toArray }:ByteArray)[i]'hh=b:=λhh=>(List.getElem?_eq_some_iff.1 h).2
theorem isDg_dec (b:UInt8):isDg b=(decide (48<=(b.toNat:Int))&&decide ((b.toNat:Int)<=57)):=by
 rw [Bool.eq_iff_iff,Zcu];simp;omega
theorem isLt_dec (b:UInt8):isLt b=(decide (97<=(b.toNat:Int))&&decide ((b.toNat:Int)<=122)):=by
 rw [Bool.eq_iff_iff,Zg2];simp;omega
theorem Zm6 (b:UInt8) (w:World):CL 171 #[.int .u8 b.toNat] w λe w'=>e=.returned (.bool (isDg b))/\w=w':=by
 rw [isDg_dec]
 generalize (b.toNat:Int)=x
 by_cases h1:48<=x
 ·go_enter Tryz.func171,Tryz.ntmps171
  go_wp2_with fail
  go_ret
  exact ⟨Zaf (by simp [h1]),rfl⟩
 ·go_enter Tryz.func171,Tryz.ntmps171
  go_wp2_with fail
  go_ret
  exact ⟨Zaf (by simp;omega),rfl⟩
theorem Zrv (b:UInt8) (w:World):CL 173 #[.int .u8 b.toNat] w λe w'=>e=.returned (.bool (isLt b))/\w=w':=by
 rw [isLt_dec]
 generalize (b.toNat:Int)=x
 by_cases h1:97<=x
 ·go_enter Tryz.func173,Tryz.ntmps173
  go_wp2_with fail
  go_ret
  exact ⟨Zaf (by simp [h1]),rfl⟩
 ·go_enter Tryz.func173,Tryz.ntmps173
  go_wp2_with fail
  go_ret
  exact ⟨Zaf (by simp;omega),rfl⟩
def Zc2 (src:List UInt8) (a:Nat) (v:Value):Prop :=
 match numTok (src.drop a) with
 | none=>∃ (e:Nat) (n:Int),v=.tuple #[.int .i64 e,.int .i64 n,.bool false]/\a<=e/\e<=src.length
 | some (m,n)=>v=.tuple #[.int .i64 ((a+m:Nat):Int),.int .i64 (n:Int),.bool true]
theorem Zc2.no {src:List UInt8} {a e:Nat} {n:Int} (h:numTok (src.drop a)=none) (h1:a<=e) (h2:e<=src.length):Zc2 src a (.tuple #[.int .i64 e,.int .i64 n,.bool false]):=by unfold Zc2;rw [h];exact ⟨e,n,rfl,h1,h2⟩
theorem Zc2.yes {src:List UInt8} {a m n:Nat} (h:numTok (src.drop a)=some (m,n)):Zc2 src a (.tuple #[.int .i64 ((a+m:Nat):Int),.int .i64 (n:Int),.bool true]):=by unfold Zc2;rw [h]
theorem Zxn {b:UInt8} (h:48<=b.toNat/\b.toNat<=57):∃ d:Nat,d<=9/\IntKind.u8.wrap ((b.toNat:Int)-48)=d/\b.toNat-48=d:=by
 refine ⟨b.toNat-48,qo, ?_,rfl⟩
 rw [show (b.toNat:Int)-48=((b.toNat-48:Nat):Int) by omega]
 show IntKind.u8.wrap _=_
 unfold IntKind.wrap
 simp [IntKind.bits,IntKind.signed]
 omega
theorem Zru {src:List UInt8} {a:Nat} (w:World) (ha:a<=src.length) (hs:src.length<=1048576) :
  CL 172 #[str src,.int .i64 a] w λe w'=>∃ v,e=.returned v/\Zc2 src a v/\Bw w w':=by
 have HD:=qh (∀ (b:UInt8) wx,CL 171 #[.int .u8 b.toNat] wx λe w'=>e=.returned (.bool (isDg b))/\wx=w') Zm6
 have HSD:=qh (∀ j,(src.drop a)[j]? = src[a+j]?) (λj=>by rw [List.getElem?_drop])
 go_enter Tryz.func172,Tryz.ntmps172
 go_wp2_with fail
 go_loop [7,8] (λp v=>∃ i:Nat,a<=i/\i<=src.length/\i-a<=6/\p=.int .i64 i/\DG (src.drop a) (i-a)/\v=.int .i64 (Zgu ((src.drop a).take (i-a)):Int)) (λp _=>src.length-(RowKit.intOf p).toNat)
 case atStart=>exact ⟨a,Nat.le_refl _,ha,qo,rfl,by rw [Nat.sub_self];exact DG.zero _,by rw [Nat.sub_self];rfl⟩
 case round =>
  obtain ⟨i,hai,hil,hi6,rfl,hdg,rfl⟩:=hrel
  have hv6:Zgu ((src.drop a).take (i-a))<1000000:=Nat.lt_of_lt_of_le hdg.val (Nat.pow_le_pow_right qo hi6)
  have HDG:=hdQ hdg
  obtain ⟨V,hV⟩:=qv (Zgu ((src.drop a).take (i-a)))
  have HV:=hdQ hV
  rw [hV] at hv6 ⊢
  clear hdg hV
  have hat0:=HSD.out (i-a)
  rw [show a+(i-a)=i by omega] at hat0
  have HAT:=hdQ hat0
  clear hat0
  rcases Nat.lt_or_ge i src.length with hlt|hge
  ·obtain ⟨b,hb⟩:∃ b,src[i]? = some b:=⟨_,List.getElem?_eq_getElem hlt⟩
   have hat:=Znw hb
   have HB:=hdQ (HAT.out.trans hb)
   have hlt':(i:Int)<src.length:=qo
   clear hb
   by_cases hdig:48<=b.toNat/\b.toNat<=57
   ·have HQ:=qh (∀ wx,CL 171 #[.int .u8 b.toNat] wx λe w'=>e=.returned (.bool true)/\wx=w') (λwx=>by have:=HD.out b wx;rw [(Zcu b).2 hdig] at this;exact this)
    obtain ⟨d,hd9,hd0,hdn⟩:=Zxn hdig
    have HN:=hdQ (HDG.out.succ HB.out hdig)
    have HW:=hdQ (Zh2 HB.out)
    have hd2:IntKind.i64.wrap (d:Int)=d:=IntWalk.i64_in _ qo
    clear hdig
    by_cases h5:i-a=6
    ·have h5a:¬ (i:Int)-a<=5:=by omega
     have h5b:(4:Int)<(i:Int)-a:=qo
     have HF:=qh (numTok (src.drop a)=none) (Zg1 (by have:=HDG.out.span;omega))
     go_wp2_with (first|(go_at_call 171;refine (HQ.out _).mono ?_;rintro e w' ⟨rfl,rfl⟩)|fail)
     exact bodyPost_ret (v:=.tuple #[.int .i64 i,.int .i64 0,.bool false]) (by simp [results,Tryz.results172,go_sem]) rfl ⟨_,rfl,Zc2.no HF.out hai hil,bll⟩
    ·have h5a:(i:Int)-a<=5:=by omega
     go_wp2_with (first|(go_at_call 171;refine (HQ.out _).mono ?_;rintro e w' ⟨rfl,rfl⟩)|fail)
     go_round
     case rel=>exact ⟨i+1,qo,qo,qo,qg,by rw [show i+1-a=i-a+1 by omega];exact HN.out,by rw [show i+1-a=i-a+1 by omega,HW.out,HV.out,hdn];go_num⟩
     case measure=>exact qn
   ·have HQ:=qh (∀ wx,CL 171 #[.int .u8 b.toNat] wx λe w'=>e=.returned (.bool false)/\wx=w') (λwx=>by have:=HD.out b wx;rw [Zfx hdig] at this;exact this)
    have HSP:=hdQ (HDG.out.span_not HB.out hdig)
    clear hdig
    by_cases h4:4<i-a
    ·have h5b:(4:Int)<(i:Int)-a:=by omega
     have HF:=qh (numTok (src.drop a)=none) (Zg1 (by rw [HSP.out];exact h4))
     go_wp2_with (first|(go_at_call 171;refine (HQ.out _).mono ?_;rintro e w' ⟨rfl,rfl⟩)|fail)
     exact bodyPost_ret (v:=.tuple #[.int .i64 i,.int .i64 0,.bool false]) (by simp [results,Tryz.results172,go_sem]) rfl ⟨_,rfl,Zc2.no HF.out hai hil,bll⟩
    ·have h5b:¬ (4:Int)<(i:Int)-a:=by omega
     have hne:((i:Int)==src.length)=false:=by simp;omega
     by_cases h46:b.toNat=46
     ·have H46:=qh ((src.drop a)[i-a]? = some 46) (by rw [HB.out];congr 1;exact UInt8.toNat_inj.1 h46)
      have HDR:=qh ((src.drop a).drop (i-a+1)=src.drop (i+1)) (by rw [List.drop_drop];congr 1;omega)
      have hi1:i+1<=src.length:=hlt
      obtain rfl:b=46:=UInt8.toNat_inj.1 h46
      have HQ46:=qh (∀ wx,CL 171 #[.int .u8 46] wx λe w'=>e=.returned (.bool false)/\wx=w') HQ.out
      clear h46
      go_wp2_with (first|(go_at_call 171;refine (HQ46.out _).mono ?_;rintro e w' ⟨rfl,rfl⟩)|fail)
      go_loop [7,10,11] (λp v u=>∃ j:Nat,i+1<=j/\j<=src.length/\j-(i+1)<=6/\p=.int .i64 j/\DG (src.drop (i+1)) (j-(i+1))/\v=.int .i64 (Zgu ((src.drop (i+1)).take (j-(i+1))):Int)/\u=.int .i64 ((10 ^ (j-(i+1)):Nat):Int)) (λp _ _=>src.length-(RowKit.intOf p).toNat)
      case atStart=>exact ⟨i+1,Nat.le_refl _,hi1,qo,qg,by rw [Nat.sub_self];exact DG.zero _,by rw [Nat.sub_self];rfl,by rw [Nat.sub_self];rfl⟩
      case round =>
       obtain ⟨j,haj,hjl,hj6,rfl,hdg,rfl,rfl⟩:=hrel
       have hf6:Zgu ((src.drop (i+1)).take (j-(i+1)))<1000000:=Nat.lt_of_lt_of_le hdg.val (Nat.pow_le_pow_right qo hj6)
       have HDG2:=hdQ hdg
       obtain ⟨F,hF⟩:=qv (Zgu ((src.drop (i+1)).take (j-(i+1))))
       have HFV:=hdQ hF
       rw [hF] at hf6 ⊢
       clear hdg hF hat
       have hat0:(src.drop (i+1))[j-(i+1)]? = src[j]? := by rw [List.getElem?_drop];congr 1;omega
       have HAT2:=hdQ hat0
       clear hat0
       rcases Nat.lt_or_ge j src.length with hlt2|hge
       ·obtain ⟨b2,hb2⟩:∃ b2,src[j]? = some b2:=⟨_,List.getElem?_eq_getElem hlt2⟩
        have hat2:=Znw hb2
        have HB2:=hdQ (HAT2.out.trans hb2)
        have hlt2':(j:Int)<src.length:=qo
        clear hb2
        by_cases hdig:48<=b2.toNat/\b2.toNat<=57
        ·have HQ2:=qh (∀ wx,CL 171 #[.int .u8 b2.toNat] wx λe w'=>e=.returned (.bool true)/\wx=w') (λwx=>by have:=HD.out b2 wx;rw [(Zcu b2).2 hdig] at this;exact this)
         obtain ⟨d,hd9,hd0,hdn⟩:=Zxn hdig
         have HN:=hdQ (HDG2.out.succ HB2.out hdig)
         have HW:=hdQ (Zh2 HB2.out)
         have hd2:IntKind.i64.wrap (d:Int)=d:=IntWalk.i64_in _ qo
         clear hdig
         by_cases h5:j-(i+1)=6
         ·have h5a:¬ (j:Int)-(i+1)<=5:=by omega
          have h5b:(4:Int)<(j:Int)-(i+1):=qo
          have e1:((j:Int)==((i:Int)+1))=false:=by simp;omega
          have HF:=qh (numTok (src.drop a)=none) (Zdq HSP.out H46.out rfl (by rw [HDR.out];have:=HDG2.out.span;omega))
          go_wp2_with (first|(go_at_call 171;refine (HQ.out _).mono ?_;rintro e w' ⟨rfl,rfl⟩)|(go_at_call 171;refine (HQ2.out _).mono ?_;rintro e w' ⟨rfl,rfl⟩)|fail)
          exact bodyPost_ret (v:=.tuple #[.int .i64 j,.int .i64 0,.bool false]) (by simp [results,Tryz.results172,go_sem]) rfl ⟨_,rfl,Zc2.no HF.out qo qo,bll⟩
         ·have h5a:(j:Int)-(i+1)<=5:=by omega
          have hp10:(10 ^ (j-(i+1)):Nat)<=1000000:=Nat.pow_le_pow_right (n:=10) qo hj6
          have HP10:=qh ((10 ^ (j+1-(i+1)):Nat)=10 ^ (j-(i+1))*10) (by rw [show j+1-(i+1)=j-(i+1)+1 by omega,Nat.pow_succ])
          obtain ⟨U,hU⟩:=qv (10 ^ (j-(i+1)))
          have HU:=hdQ hU
          rw [hU] at hp10 ⊢
          clear hU
          go_wp2_with (first|(go_at_call 171;refine (HQ.out _).mono ?_;rintro e w' ⟨rfl,rfl⟩)|(go_at_call 171;refine (HQ2.out _).mono ?_;rintro e w' ⟨rfl,rfl⟩)|fail)
          go_round
          case rel=>exact ⟨j+1,qo,qo,qo,qg,by rw [show j+1-(i+1)=j-(i+1)+1 by omega];exact HN.out,by rw [show j+1-(i+1)=j-(i+1)+1 by omega,HW.out,HFV.out,hdn];go_num,by rw [HP10.out,HU.out];go_num⟩
          case measure=>exact qn
        ·have HQ2:=qh (∀ wx,CL 171 #[.int .u8 b2.toNat] wx λe w'=>e=.returned (.bool false)/\wx=w') (λwx=>by have:=HD.out b2 wx;rw [Zfx hdig] at this;exact this)
         have HSP2:=qh (Zav isDg ((src.drop a).drop (i-a+1))=j-(i+1)) (by rw [HDR.out];exact HDG2.out.span_not HB2.out hdig)
         clear hdig
         rcases (show j-(i+1)<1∨4<j-(i+1)∨(1<=j-(i+1)/\j-(i+1)<=4) by omega) with h7|h7|⟨h7,h8⟩
         ·have HF:=qh (numTok (src.drop a)=none) (Zdq HSP.out H46.out HSP2.out (.inl h7))
          have e1:((j:Int)==((i:Int)+1))=true:=by simp;omega
          go_wp2_with (first|(go_at_call 171;refine (HQ.out _).mono ?_;rintro e w' ⟨rfl,rfl⟩)|(go_at_call 171;refine (HQ2.out _).mono ?_;rintro e w' ⟨rfl,rfl⟩)|fail)
          exact bodyPost_ret (v:=.tuple #[.int .i64 j,.int .i64 0,.bool false]) (by simp [results,Tryz.results172,go_sem]) rfl ⟨_,rfl,Zc2.no HF.out qo qo,bll⟩
         ·have HF:=qh (numTok (src.drop a)=none) (Zdq HSP.out H46.out HSP2.out (.inr h7))
          have e1:((j:Int)==((i:Int)+1))=false:=by simp;omega
          have e2:(4:Int)<(j:Int)-(i+1):=qo
          go_wp2_with (first|(go_at_call 171;refine (HQ.out _).mono ?_;rintro e w' ⟨rfl,rfl⟩)|(go_at_call 171;refine (HQ2.out _).mono ?_;rintro e w' ⟨rfl,rfl⟩)|fail)
          exact bodyPost_ret (v:=.tuple #[.int .i64 j,.int .i64 0,.bool false]) (by simp [results,Tryz.results172,go_sem]) rfl ⟨_,rfl,Zc2.no HF.out qo qo,bll⟩
         ·have HF:=qh (numTok (src.drop a)=some (i-a+1+(j-(i+1)),V*256+F*256 / 10 ^ (j-(i+1)))) (by have:=Zfn HSP.out h4 H46.out HSP2.out qo;rw [HV.out,HDR.out,HFV.out] at this;exact this)
          obtain ⟨U,hU⟩:=qv (10 ^ (j-(i+1)))
          have hU0:0<U:=by rw [<- hU];exact Nat.pow_pos qo
          have hU1:U<=10000:=by rw [<- hU];exact Nat.pow_le_pow_right qo h8
          rw [hU] at HF
          rw [hU]
          have hU2:¬ U=0:=qo
          have hdl:F*256 / U<=F*256:=Nat.div_le_self _ _
          obtain ⟨Q,hQn⟩:=qv (F*256 / U)
          have hQl:Q<=F*256:=by rw [<- hQn];exact hdl
          have hQ:(F:Int)*256 / U=(Q:Int):=by rw [<- hQn];simp
          have hww:IntKind.i64.wrap ((V:Int)*256+IntKind.i64.wrap ((F:Int)*256 / U))=(V:Int)*256+(F:Int)*256 / U:=by rw [hQ,IntWalk.i64_in (Q:Int) qo,IntWalk.i64_in ((V:Int)*256+Q) qo]
          have hdv:Int.tdiv ((F:Int)*256) U=((F*256 / U:Nat):Int):=by rw [show ((F:Int)*256)=((F*256:Nat):Int) by omega];rfl
          have e1:((j:Int)==((i:Int)+1))=false:=by simp;omega
          have e2:¬ (4:Int)<(j:Int)-(i+1):=qo
          clear hU
          go_upto_region 20 with (first|(go_at_call 171;refine (HQ.out _).mono ?_;rintro e w' ⟨rfl,rfl⟩)|(go_at_call 171;refine (HQ2.out _).mono ?_;rintro e w' ⟨rfl,rfl⟩)|fail)
          go_quiet (fail)
          (try go_wp2_with fail)
          exact bodyPost_ret (v:=.tuple #[.int .i64 j,.int .i64 ((V*256+F*256 / U:Nat):Int),.bool true]) (by simp [results,Tryz.results172,go_sem,hdv];exact hQ.symm) rfl ⟨_,rfl,by have:=Zc2.yes HF.out;rw [show a+(i-a+1+(j-(i+1)))=j by omega] at this;exact this,bll⟩
       ·obtain ⟨n,hn⟩:=qv (src.length)
        obtain rfl:j=src.length:=qo
        have HSP2:=qh (Zav isDg ((src.drop a).drop (i-a+1))=src.length-(i+1)) (by rw [HDR.out];exact HDG2.out.span_end (by rw [HAT2.out];exact List.getElem?_eq_none (Nat.le_refl _)))
        clear hn
        rcases (show src.length-(i+1)<1∨4<src.length-(i+1)∨(1<=src.length-(i+1)/\src.length-(i+1)<=4) by omega) with h7|h7|⟨h7,h8⟩
        ·have HF:=qh (numTok (src.drop a)=none) (Zdq HSP.out H46.out HSP2.out (.inl h7))
         have e1:((src.length:Int)==((i:Int)+1))=true:=by simp;omega
         go_wp2_with fail
         exact bodyPost_ret (v:=.tuple #[.int .i64 src.length,.int .i64 0,.bool false]) (by simp [results,Tryz.results172,go_sem]) rfl ⟨_,rfl,Zc2.no HF.out qo qo,bll⟩
        ·have HF:=qh (numTok (src.drop a)=none) (Zdq HSP.out H46.out HSP2.out (.inr h7))
         have e1:((src.length:Int)==((i:Int)+1))=false:=by simp;omega
         have e2:(4:Int)<(src.length:Int)-(i+1):=qo
         go_wp2_with fail
         exact bodyPost_ret (v:=.tuple #[.int .i64 src.length,.int .i64 0,.bool false]) (by simp [results,Tryz.results172,go_sem]) rfl ⟨_,rfl,Zc2.no HF.out qo qo,bll⟩
        ·have HF:=qh (numTok (src.drop a)=some (i-a+1+(src.length-(i+1)),V*256+F*256 / 10 ^ (src.length-(i+1)))) (by have:=Zfn HSP.out h4 H46.out HSP2.out qo;rw [HV.out,HDR.out,HFV.out] at this;exact this)
         obtain ⟨U,hU⟩:=qv (10 ^ (src.length-(i+1)))
         have hU0:0<U:=by rw [<- hU];exact Nat.pow_pos qo
         have hU1:U<=10000:=by rw [<- hU];exact Nat.pow_le_pow_right qo h8
         rw [hU] at HF
         rw [hU]
         have hU2:¬ U=0:=qo
         have hdl:F*256 / U<=F*256:=Nat.div_le_self _ _
         obtain ⟨Q,hQn⟩:=qv (F*256 / U)
         have hQl:Q<=F*256:=by rw [<- hQn];exact hdl
         have hQ:(F:Int)*256 / U=(Q:Int):=by rw [<- hQn];simp
         have hww:IntKind.i64.wrap ((V:Int)*256+IntKind.i64.wrap ((F:Int)*256 / U))=(V:Int)*256+(F:Int)*256 / U:=by rw [hQ,IntWalk.i64_in (Q:Int) qo,IntWalk.i64_in ((V:Int)*256+Q) qo]
         have hdv:Int.tdiv ((F:Int)*256) U=((F*256 / U:Nat):Int):=by rw [show ((F:Int)*256)=((F*256:Nat):Int) by omega];rfl
         have e1:((src.length:Int)==((i:Int)+1))=false:=by simp;omega
         have e2:¬ (4:Int)<(src.length:Int)-(i+1):=qo
         clear hU
         go_upto_region 20 with fail
         go_quiet (fail)
         (try go_wp2_with fail)
         exact bodyPost_ret (v:=.tuple #[.int .i64 src.length,.int .i64 ((V*256+F*256 / U:Nat):Int),.bool true]) (by simp [results,Tryz.results172,go_sem,hdv];exact hQ.symm) rfl ⟨_,rfl,by have:=Zc2.yes HF.out;rw [show a+(i-a+1+(src.length-(i+1)))=src.length by omega] at this;exact this,bll⟩
     ·have HF:=qh (numTok (src.drop a)=some (i-a,V*256)) (by have:=Zfm HSP.out h4 (by rw [HB.out];intro e;injection e with e;subst e;exact h46 rfl);rw [HV.out] at this;exact this)
      have h46':((b.toNat:Int) != 46)=true:=by simp;omega
      go_wp2_with (first|(go_at_call 171;refine (HQ.out _).mono ?_;rintro e w' ⟨rfl,rfl⟩)|fail)
      exact bodyPost_ret (v:=.tuple #[.int .i64 i,.int .i64 ((V*256:Nat):Int),.bool true]) (by simp [results,Tryz.results172,go_sem]) rfl ⟨_,rfl,by have:=Zc2.yes HF.out;rw [show a+(i-a)=i by omega] at this;exact this,bll⟩
  ·obtain rfl:i=src.length:=by omega
   have HSP:=hdQ (HDG.out.span_end (by rw [HAT.out];exact List.getElem?_eq_none (Nat.le_refl _)))
   by_cases h4:4<src.length-a
   ·have h5b:(4:Int)<(src.length:Int)-a:=by omega
    have HF:=qh (numTok (src.drop a)=none) (Zg1 (by rw [HSP.out];exact h4))
    go_wp2_with fail
    exact bodyPost_ret (v:=.tuple #[.int .i64 src.length,.int .i64 0,.bool false]) (by simp [results,Tryz.results172,go_sem]) rfl ⟨_,rfl,Zc2.no HF.out hai hil,bll⟩
   ·have h5b:¬ (4:Int)<(src.length:Int)-a:=by omega
    have HF:=qh (numTok (src.drop a)=some (src.length-a,V*256)) (by have:=Zfm HSP.out h4 (by rw [HAT.out,List.getElem?_eq_none (Nat.le_refl _)];simp);rw [HV.out] at this;exact this)
    have hne:((src.length:Int)==src.length)=true:=qs
    go_wp2_with fail
    exact bodyPost_ret (v:=.tuple #[.int .i64 src.length,.int .i64 ((V*256:Nat):Int),.bool true]) (by simp [results,Tryz.results172,go_sem]) rfl ⟨_,rfl,by have:=Zc2.yes HF.out;rw [show a+(src.length-a)=src.length by omega] at this;exact this,bll⟩
abbrev Zhi (x:Zam):Value:=.agg #[.int .i64 x.1,str x.2.1,.int .i64 x.2.2.1,.int .i64 x.2.2.2]
def cTok (x:Zam):List Value:=[.int .i64 x.1,str x.2.1,.int .i64 x.2.2.1,.int .i64 x.2.2.2]
abbrev Zip (l:List Zam):List Value:=rowOf cTok l
theorem rTok_at {l:List Zam} {k:Nat} (hk:k<l.length):(Zip l)[k*4]? = some (.int .i64 l[k].1)/\(Zip l)[k*4+1]? = some (str l[k].2.1)/\(Zip l)[k*4+2]? = some (.int .i64 l[k].2.2.1)/\(Zip l)[k*4+3]? = some (.int .i64 l[k].2.2.2):=by
 have h:=Zno (f:=cTok) (s:=4) (λ_=>rfl) l k
 exact ⟨h 0 hk qo,h 1 hk qo,h 2 hk qo,h 3 hk qo⟩
theorem Zjv (l:List Zam):∀ u∈Zip l,u.oneCell'=true:=by
 intro u hu
 obtain ⟨x,_,hx⟩:=List.mem_flatMap.1 hu
 simp only [cTok,List.mem_cons,List.not_mem_nil,or_false] at hx
 rcases hx with rfl|rfl|rfl|rfl<;>rfl
theorem Zh8 (l:List Zam) (x:Zam):Zip l++Zip [x]=Zip (l++[x]):=by simp [Zip,rowOf]
theorem Zhp (l:List UInt8) (a b:Nat):({ data:=l.toArray }:ByteArray).extract a b=⟨((l.take b).drop a).toArray⟩:=by
 apply ByteArray.ext
 rw [ByteArray.data_extract]
 apply Array.ext'
 simp [List.extract_eq_take_drop,List.drop_take]
theorem Zfw (l:List UInt8) (a m:Nat):({ data:=l.toArray }:ByteArray).extract a (a+m)=⟨((l.drop a).take m).toArray⟩:=by
 rw [Zhp,List.drop_take]
 congr 3;omega
def Zcq (src:List UInt8) (a:Nat) (v:Value):Prop :=
 match Zaq (src.drop a) with
 | none=>∃ (x:Zam) (e:Nat),v=.tuple #[Zhi x,.int .i64 e,.bool false]
 | some (k,m,n)=>v=.tuple #[Zhi (k,(src.drop a).take m,(n:Int),(a:Int)),.int .i64 ((a+m:Nat):Int),.bool true]
theorem Zcq.no {src:List UInt8} {a e:Nat} {x:Zam} (h:Zaq (src.drop a)=none):Zcq src a (.tuple #[Zhi x,.int .i64 e,.bool false]):=by unfold Zcq;rw [h];exact ⟨x,e,rfl⟩
theorem Zcq.yes {src:List UInt8} {a m n:Nat} {k:Int} (h:Zaq (src.drop a)=some (k,m,n)):Zcq src a (.tuple #[Zhi (k,(src.drop a).take m,(n:Int),(a:Int)),.int .i64 ((a+m:Nat):Int),.bool true]):=by unfold Zcq;rw [h]
theorem Zp8 {src:List UInt8} {a:Nat} {b:UInt8} (h:src[a]? = some b):∃ l,src.drop a=b::l:=by
 obtain ⟨hl,rfl⟩:=List.getElem?_eq_some_iff.1 h
 exact ⟨_,List.drop_eq_getElem_cons hl⟩
theorem Zsr {l:List UInt8} {b:UInt8} (h:∃ q,l=b::q) (hd:isDg b=true):Zaq l=(numTok l).map λx=>(1,x.1,x.2):=by
 obtain ⟨q,rfl⟩:=h
 unfold Zaq
 simp only [hd,if_true]
def Zpw (c:UInt8):Bool:=isLt c||isDg c
theorem Zo8 {l:List UInt8} {b:UInt8} (h:∃ q,l=b::q) (hd:isDg b=false) (hl:isLt b=true):Zaq l=if 8<Zav Zpw l then none else some (2,Zav Zpw l,0):=by
 obtain ⟨q,rfl⟩:=h
 unfold Zaq
 simp only [hd,hl,if_true,Bool.false_eq_true,if_false]
 rfl
theorem Znn {l:List UInt8} {b:UInt8} (h:∃ q,l=b::q) (hd:isDg b=false) (hl:isLt b=false):Zaq l=if isSy b then some (3,1,0) else none:=by
 obtain ⟨q,rfl⟩:=h
 unfold Zaq
 simp only [hd,hl,Bool.false_eq_true,if_false]
def NG (l:List UInt8) (k:Nat):Prop:=∀ j,j<k->∃ b,l[j]? = some b/\Zpw b=true
theorem NG.succ {l:List UInt8} {k:Nat} {b:UInt8} (h:NG l k) (hb:l[k]? = some b) (hd:Zpw b=true):NG l (k+1):=by
 intro j hj
 by_cases e:j=k
 ·subst e;exact ⟨b,hb,hd⟩
 ·exact h j qo
theorem Zs8 {k:Nat} {x:UInt8} (h:Znj[k]? = some x):isSy x=true:=by
 unfold isSy
 rw [List.contains_iff_mem]
 exact List.mem_of_getElem? h
theorem Zxg {b:UInt8} (h:∀ j,j<9->Znj[j]? ≠ some b):isSy b=false:=by
 cases hs:isSy b with
 | false=>rfl
 | true =>
  unfold isSy at hs
  rw [List.contains_iff_mem] at hs
  obtain ⟨j,hj,e⟩:=List.mem_iff_getElem.1 hs
  exact absurd (by rw [List.getElem?_eq_getElem hj,e]) (h j hj)
theorem sym_cell (w:World) (X:Obj) (e:TypeId) {k:Nat} {x:UInt8} (h:Znj[k]? = some x) :
  ((w.alloc X).alloc (.cells #[.int .u8 43,.int .u8 45,.int .u8 42,.int .u8 47,.int .u8 40,.int .u8 41,.int .u8 44,.int .u8 61,.int .u8 59] e (9,10))).cell? ⟨w.heap.size+1,k,none⟩=some (.int .u8 x.toNat):=by
 have hh:=heap_alloc_new (w.alloc X) (.cells #[.int .u8 43,.int .u8 45,.int .u8 42,.int .u8 47,.int .u8 40,.int .u8 41,.int .u8 44,.int .u8 61,.int .u8 59] e (9,10))
 rw [World.size_alloc] at hh
 have hs:(#[.int .u8 43,.int .u8 45,.int .u8 42,.int .u8 47,.int .u8 40,.int .u8 41,.int .u8 44,.int .u8 61,.int .u8 59]:Array Value)=(Znj.map (λb=>Value.int .u8 b.toNat)).toArray:=rfl
 have e2:(Znj.map (λb=>Value.int .u8 b.toNat))[k]? = some (.int .u8 x.toNat):=by rw [List.getElem?_map,h];rfl
 unfold World.cell?
 dsimp only
 rw [hh,hs]
 show (Znj.map (λb=>Value.int .u8 b.toNat)).toArray[k]? = _
 rw [List.getElem?_toArray]
 exact e2
theorem symB_at {k:Nat} (hk:k<9):∃ x,Znj[k]? = some x:=⟨_,List.getElem?_eq_getElem hk⟩
theorem T.infoToken:(Tryz.prog.info? 101).map (λi=>(i.zero,i.size,i.bytes))=some (some (.agg #[.int .i64 0,.string ByteArray.empty,.int .i64 0,.int .i64 0]),4,40):=kr
theorem Zx8 {src:List UInt8} {a:Nat} (w:World) (ha:a<src.length) (hs:src.length<=1048576) :
  CL 120 #[str src,.int .i64 a] w λe w'=>∃ v,e=.returned v/\Zcq src a v/\Bw w w':=by
 obtain ⟨b,hb⟩:∃ b,src[a]? = some b:=⟨_,List.getElem?_eq_getElem ha⟩
 have hat:=Znw hb
 have HQ:=hdQ (Zp8 hb)
 have ha':(a:Int)<src.length:=qo
 clear hb
 have HDG:=qh (∀ (b:UInt8) wx,CL 171 #[.int .u8 b.toNat] wx λe w'=>e=.returned (.bool (isDg b))/\wx=w') Zm6
 have HLT:=qh (∀ (b:UInt8) wx,CL 173 #[.int .u8 b.toNat] wx λe w'=>e=.returned (.bool (isLt b))/\wx=w') Zrv
 cases hd:isDg b with
 | true =>
  have HD1:=qh (∀ wx,CL 171 #[.int .u8 b.toNat] wx λe w'=>e=.returned (.bool true)/\wx=w') (λwx=>by have:=HDG.out b wx;rw [hd] at this;exact this)
  have HSC:=hdQ (Zsr HQ.out hd)
  have HNU:=qh (∀ wx,CL 172 #[str src,.int .i64 a] wx λe w'=>∃ v,e=.returned v/\Zc2 src a v/\Bw wx w') (λwx=>Zru wx (Nat.le_of_lt ha) hs)
  clear hd
  go_enter Tryz.func120,Tryz.ntmps120
  go_wp2_with (first|(go_at_call 171;refine (HD1.out _).mono ?_;rintro e w' ⟨rfl,rfl⟩)|fail)
  refine (HNU.out _).mono ?_
  rintro e w1 ⟨v,rfl,hv,hb1⟩
  have hz1:=hb1.size
  (try simp at hz1)
  have c0:∀ o,w1.cell? ⟨w.heap.size,o,none⟩=_:=λo=>hb1.cell (p:=⟨w.heap.size,o,none⟩) qs
  have f0:∀ o,w1.frozen? ⟨w.heap.size,o,none⟩=_:=λo=>hb1.frozen (p:=⟨w.heap.size,o,none⟩) qs
  have HB1:=bh w hb1
  clear hb1
  unfold Zc2 at hv
  cases hn:numTok (src.drop a) with
  | none =>
   rw [hn] at hv
   obtain ⟨e,n,rfl,he1,he2⟩:=hv
   have HF:=qh (Zaq (src.drop a)=none) (by rw [HSC.out,hn];rfl)
   have i1:(a:Int)<=e:=qo
   have i2:(e:Int)<=src.length:=qo
   obtain ⟨u,hu⟩:=qv ((src.take e).drop a)
   have hex:({ data:=src.toArray }:ByteArray).extract a e=⟨u.toArray⟩:=by rw [Zhp,hu]
   clear hn hu
   go_wp2_with fail
   exact bodyPost_ret (v:=.tuple #[Zhi (1,u,n,(a:Int)),.int .i64 e,.bool false]) (by simp [results,Tryz.results120,go_sem, *]) rfl ⟨_,rfl,Zcq.no HF.out,bll⟩
  | some x =>
   obtain ⟨m,n⟩:=x
   rw [hn] at hv
   dsimp only at hv
   subst hv
   have HF:=qh (Zaq (src.drop a)=some (1,m,n)) (by rw [HSC.out,hn];rfl)
   have hm:=(Zmq hn).1
   rw [List.length_drop] at hm
   have hex:({ data:=src.toArray }:ByteArray).extract a (a+m)=⟨((src.drop a).take m).toArray⟩:=Zfw _ _ _
   have i1:(a:Int)<=((a+m:Nat):Int):=qo
   have i2:((a+m:Nat):Int)<=src.length:=qo
   obtain ⟨E,hE⟩:=qv (a+m)
   have HE:=hdQ hE
   rw [hE] at i1 i2 hex ⊢
   obtain ⟨u,hu⟩:=qv ((src.drop a).take m)
   have HU:=hdQ hu
   rw [hu] at hex
   clear hn hE hu
   go_wp2_with fail
   exact bodyPost_ret (v:=.tuple #[Zhi (1,u,(n:Int),(a:Int)),.int .i64 E,.bool true]) (by simp [results,Tryz.results120,go_sem, *]) rfl ⟨_,rfl,by have:=Zcq.yes HF.out;rw [HE.out,HU.out] at this;exact this,bll⟩
 | false =>
  have HD0:=qh (∀ wx,CL 171 #[.int .u8 b.toNat] wx λe w'=>e=.returned (.bool false)/\wx=w') (λwx=>by have:=HDG.out b wx;rw [hd] at this;exact this)
  cases hl:isLt b with
  | true =>
   have HL1:=qh (∀ wx,CL 173 #[.int .u8 b.toNat] wx λe w'=>e=.returned (.bool true)/\wx=w') (λwx=>by have:=HLT.out b wx;rw [hl] at this;exact this)
   have HSC:=hdQ (Zo8 HQ.out hd hl)
   clear hd hl
   go_enter Tryz.func120,Tryz.ntmps120
   go_wp2_with (first|(go_at_call 171;refine (HD0.out _).mono ?_;rintro e w' ⟨rfl,rfl⟩)|(go_at_call 173;refine (HL1.out _).mono ?_;rintro e w' ⟨rfl,rfl⟩)|fail)
   go_loop [11] (λp=>∃ i:Nat,a<=i/\i<=src.length/\p=.int .i64 i/\NG (src.drop a) (i-a)) (λp=>src.length-(RowKit.intOf p).toNat)
   case atStart=>exact ⟨a,Nat.le_refl _,qo,rfl,by rw [Nat.sub_self];exact λj hj=>absurd hj qo⟩
   case round =>
    obtain ⟨i,hai,hil,rfl,hng⟩:=hrel
    have HNG:=hdQ hng
    clear hng
    have hat0:(src.drop a)[i-a]? = src[i]? := by rw [List.getElem?_drop];congr 1;omega
    have HAT:=hdQ hat0
    clear hat0
    have FIN:=qh (∀ u:List UInt8,u=(src.take i).drop a->Zav Zpw (src.drop a)=i-a->Zcq src a (.tuple #[Zhi (2,u,0,(a:Int)),.int .i64 i,.bool (decide ((i:Int)-a<=8))])) (λu hu hsp=>by
     by_cases h8:8<i-a
     ·rw [decide_eq_false qo]
      exact Zcq.no (by rw [HSC.out,hsp,if_pos h8])
     ·rw [decide_eq_true qo]
      have:=Zcq.yes (src:=src) (a:=a) (m:=i-a) (n:=0) (k:=2) (by rw [HSC.out,hsp,if_neg h8])
      rw [show a+(i-a)=i by omega,<- List.drop_take,<- hu] at this
      exact this)
    obtain ⟨u,hu⟩:=qv ((src.take i).drop a)
    have HU:=hdQ hu
    have hex:({ data:=src.toArray }:ByteArray).extract a i=⟨u.toArray⟩:=by rw [Zhp,hu]
    clear hu
    have i1:(a:Int)<=i:=qo
    have i2:(i:Int)<=src.length:=qo
    rcases Nat.lt_or_ge i src.length with hlt|hge
    ·obtain ⟨c,hc⟩:∃ c,src[i]? = some c:=⟨_,List.getElem?_eq_getElem hlt⟩
     have hatc:=Znw hc
     have HC:=hdQ (HAT.out.trans hc)
     have hlt':(i:Int)<src.length:=qo
     clear hc
     have ARM:=qh (∀ wx,CL 171 #[.int .u8 c.toNat] wx λe w'=>e=.returned (.bool (isDg c))/\wx=w') (HDG.out c)
     cases hcl:isLt c with
     | true =>
      have HNX:=hdQ (HNG.out.succ HC.out (by unfold Zpw;rw [hcl];rfl))
      have HLc:=qh (∀ wx,CL 173 #[.int .u8 c.toNat] wx λe w'=>e=.returned (.bool true)/\wx=w') (λwx=>by have:=HLT.out c wx;rw [hcl] at this;exact this)
      clear hcl
      go_wp2_with (first|(go_at_call 173;refine (HLc.out _).mono ?_;rintro e w' ⟨rfl,rfl⟩)|fail)
      go_round
      case rel=>exact ⟨i+1,qo,qo,qg,by rw [show i+1-a=i-a+1 by omega];exact HNX.out⟩
      case measure=>exact qn
     | false =>
      have HLc:=qh (∀ wx,CL 173 #[.int .u8 c.toNat] wx λe w'=>e=.returned (.bool false)/\wx=w') (λwx=>by have:=HLT.out c wx;rw [hcl] at this;exact this)
      cases hcd:isDg c with
      | true =>
       have HNX:=hdQ (HNG.out.succ HC.out (by unfold Zpw;rw [hcl,hcd];rfl))
       have HDc:=qh (∀ wx,CL 171 #[.int .u8 c.toNat] wx λe w'=>e=.returned (.bool true)/\wx=w') (λwx=>by have:=HDG.out c wx;rw [hcd] at this;exact this)
       clear hcl hcd
       go_wp2_with (first|(go_at_call 173;refine (HLc.out _).mono ?_;rintro e w' ⟨rfl,rfl⟩)|(go_at_call 171;refine (HDc.out _).mono ?_;rintro e w' ⟨rfl,rfl⟩)|fail)
       go_round
       case rel=>exact ⟨i+1,qo,qo,qg,by rw [show i+1-a=i-a+1 by omega];exact HNX.out⟩
       case measure=>exact qn
      | false =>
       have HSP:=qh (Zav Zpw (src.drop a)=i-a) (Zes HNG.out (λc' hc'=>by rw [HC.out] at hc';injection hc' with hc';subst hc';unfold Zpw;rw [hcl,hcd];rfl))
       have HDc:=qh (∀ wx,CL 171 #[.int .u8 c.toNat] wx λe w'=>e=.returned (.bool false)/\wx=w') (λwx=>by have:=HDG.out c wx;rw [hcd] at this;exact this)
       clear hcl hcd
       go_wp2_with (first|(go_at_call 173;refine (HLc.out _).mono ?_;rintro e w' ⟨rfl,rfl⟩)|(go_at_call 171;refine (HDc.out _).mono ?_;rintro e w' ⟨rfl,rfl⟩)|fail)
       exact bodyPost_ret (v:=.tuple #[Zhi (2,u,0,(a:Int)),.int .i64 i,.bool (decide ((i:Int)-a<=8))]) (by simp [results,Tryz.results120,go_sem, *]) rfl ⟨_,rfl,FIN.out u HU.out.symm HSP.out,bll⟩
    ·obtain rfl:i=src.length:=by omega
     have HSP:=qh (Zav Zpw (src.drop a)=src.length-a) (Zes HNG.out (λc' hc'=>by rw [HAT.out,List.getElem?_eq_none (Nat.le_refl _)] at hc';cases hc'))
     go_wp2_with fail
     exact bodyPost_ret (v:=.tuple #[Zhi (2,u,0,(a:Int)),.int .i64 src.length,.bool (decide ((src.length:Int)-a<=8))]) (by simp [results,Tryz.results120,go_sem, *]) rfl ⟨_,rfl,FIN.out u HU.out.symm HSP.out,bll⟩
  | false =>
   have HL0:=qh (∀ wx,CL 173 #[.int .u8 b.toNat] wx λe w'=>e=.returned (.bool false)/\wx=w') (λwx=>by have:=HLT.out b wx;rw [hl] at this;exact this)
   have HSC:=hdQ (Znn HQ.out hd hl)
   clear hd hl
   have kc:∀ (X:Obj) (C:Array Value) (n c:Nat),(convert 36 36 (.slice (some ⟨w.heap.size+1,0,none⟩) n c)).run Tryz.prog ((w.alloc X).alloc (.cells C 5))=.ok (.slice (some ⟨w.heap.size+1,0,none⟩) n c) ((w.alloc X).alloc (.cells C 5 (C.size,C.size+1))):=λX C n c=>by
    have:=Lib.run_convert_bytes_const (P:=Tryz.prog) (w.alloc X) 36 5 C n c Tryz.underlying36 Tryz.underlying5
    rwa [World.size_alloc] at this
   go_enter Tryz.func120,Tryz.ntmps120
   go_wp2_with (first|(go_at_call 171;refine (HD0.out _).mono ?_;rintro e w' ⟨rfl,rfl⟩)|(go_at_call 173;refine (HL0.out _).mono ?_;rintro e w' ⟨rfl,rfl⟩)|fail)
   go_loop [13,70] (λ_ p=>∃ k:Nat,k<=9/\p=.int .i64 k/\∀ j,j<k->Znj[j]? ≠ some b) (λ_ p=>9-(RowKit.intOf p).toNat)
   case atStart=>exact ⟨0,qo,rfl,λj hj=>absurd hj qo⟩
   case round =>
    obtain ⟨k,hk9,rfl,hno⟩:=hrel
    have HNO:=hdQ hno
    clear hno
    by_cases hk:k<9
    ·obtain ⟨x,hx⟩:=symB_at hk
     have hc:=sym_cell w (.cells #[.int .i64 0,.string ⟨#[]⟩,.int .i64 0,.int .i64 0] 101) 5 hx
     have hk':(k:Int)<9:=qo
     by_cases e:x=b
     ·subst e
      have HF:=qh (Zaq (src.drop a)=some (3,1,0)) (by rw [HSC.out,if_pos (Zs8 hx)])
      have hex:({ data:=src.toArray }:ByteArray).extract a (a+1)=⟨((src.drop a).take 1).toArray⟩:=Zfw _ _ _
      obtain ⟨u,hu⟩:=qv ((src.drop a).take 1)
      have HU:=hdQ hu
      rw [hu] at hex
      clear hu hx
      have i1:(a:Int)+1<=src.length:=qo
      go_wp2_with fail
      exact bodyPost_ret (v:=.tuple #[Zhi (3,u,0,(a:Int)),.int .i64 ((a+1:Nat):Int),.bool true]) (by simp [results,Tryz.results120,go_sem, *]) rfl ⟨_,rfl,by have:=Zcq.yes HF.out;rw [HU.out] at this;exact this,bll⟩
     ·have e':((x.toNat:Int)==b.toNat)=false:=by
       rw [beq_eq_false_iff_ne];intro h;exact e (UInt8.toNat_inj.1 qo)
      have HN:=qh (∀ j,j<k+1->Znj[j]? ≠ some b) (λj hj=>by
       by_cases ej:j=k
       ·subst ej;rw [hx];intro h;injection h with h;exact e h
       ·exact HNO.out j qo)
      clear hx
      go_wp2_with fail
      go_round
      case rel=>exact ⟨k+1,qo,qg,HN.out⟩
      case measure=>exact qn
    ·obtain rfl:k=9:=by omega
     have HF:=qh (Zaq (src.drop a)=none) (by rw [HSC.out,Zxg HNO.out];rfl)
     go_wp2_with fail
     exact bodyPost_ret (v:=.tuple #[Zhi (0,[],0,0),.int .i64 a,.bool false]) (by simp [results,Tryz.results120,go_sem, *]) rfl ⟨_,rfl,Zcq.no HF.out,bll⟩
def Zqr (src:List UInt8) (a:Nat) (l:List Zam):Prop:=l.length<=a/\∀ n,src.length<a+n->tokz src n a l=tokz src (src.length+1) 0 []
theorem Zqr.zero (src:List UInt8):Zqr src 0 []:=⟨Nat.le_refl _,λn h=>Zov _ _ _ _ h qo⟩
theorem Zqr.space {src:List UInt8} {a:Nat} {l:List Zam} {b:UInt8} (h:Zqr src a l) (hb:src[a]? = some b) (hs:Zgb b=true):Zqr src (a+1) l :=
 ⟨by have:=h.1;omega,λn hn=>by rw [<- h.2 (n+1) qo,Zea hb hs]⟩
theorem Zqr.tok {src:List UInt8} {a m v:Nat} {k:Int} {l:List Zam} {b:UInt8} (h:Zqr src a l) (hb:src[a]? = some b) (hs:Zgb b=false) (hk:Zaq (src.drop a)=some (k,m,v)):Zqr src (a+m) (l++[(k,(src.drop a).take m,(v:Int),(a:Int))]) :=
 ⟨by have:=h.1;have:=Zc7 hk;simp;omega,λn hn=>by
  rw [<- h.2 (n+m) qo]
  have:=Zc7 hk
  obtain ⟨j,rfl⟩:∃ j,m=j+1:=⟨m-1,qo⟩
  rw [show n+(j+1)=(n+j)+1 by omega,Zgw hb hs hk]
  exact Zov _ _ _ _ qo qo⟩
theorem Zqr.bad {src:List UInt8} {a:Nat} {l:List Zam} {b:UInt8} (h:Zqr src a l) (hlen:¬ 2000<src.length) (hb:src[a]? = some b) (hs:Zgb b=false) (hk:Zaq (src.drop a)=none):toksF src=.error a:=by
 unfold toksF
 rw [if_neg hlen,<- h.2 (src.length+1) qo,Zh4 hb hs hk]
 rfl
theorem Zqr.done {src:List UInt8} {l:List Zam} (h:Zqr src src.length l) (hlen:¬ 2000<src.length):toksF src=.ok (l++[(0,[],0,(src.length:Int))]):=by
 unfold toksF
 rw [if_neg hlen,<- h.2 1 qo,Zer (Nat.le_refl _)]
 rfl
theorem Zmf {src:List UInt8} (h:2000<src.length):toksF src=.error 0:=by unfold toksF;rw [if_pos h]
def Zcn (src:List UInt8) (t:TypeId) (w:World) (e:Ending) (w':World):Prop :=
 match toksF src with
 | .error o=>e=.returned (.tuple #[.slice none 0 0,.int .i64 o])/\Bw w w'
 | .ok T=>∃ A c,e=.returned (.tuple #[.slice A T.length c,.int .i64 (-1)])/\Zaj w' w.heap.size t 4 A T.length c (Zip T)/\Bw w w'
theorem Zcn.no {src:List UInt8} {t:TypeId} {w w':World} {o:Nat} (h:toksF src=.error o) (hb:Bw w w'):Zcn src t w (.returned (.tuple #[.slice none 0 0,.int .i64 o])) w':=by
 unfold Zcn;rw [h];exact ⟨rfl,hb⟩
theorem Zcn.yes {src:List UInt8} {t:TypeId} {w w':World} {T:List Zam} {A:OA} {n c:Nat} (h:toksF src=.ok T) (hn:n=T.length) (hg:Zaj w' w.heap.size t 4 A n c (Zip T)) (hb:Bw w w'):Zcn src t w (.returned (.tuple #[.slice A n c,.int .i64 (-1)])) w':=by
 subst hn;unfold Zcn;rw [h];exact ⟨_,_,rfl,hg,hb⟩
theorem isSp_no {b:UInt8} (h1:¬ b=32) (h2:¬ b=10):Zgb b=false:=by simp [Zgb,h1,h2]
theorem Zu8 {src:List UInt8} (w:World) (hs:src.length<=1048576) :
  CL 59 #[str src] w (Zcn src 101 w):=by
 rcases Nat.lt_or_ge 2000 src.length with hlen|hlen
 ·have HF:=hdQ (Zmf hlen)
  have h1:(2000:Int)<src.length:=qo
  go_enter Tryz.func59,Tryz.ntmps59
  go_wp2_with fail
  go_ret2
  exact Zcn.no HF.out (Below.refl _ _)
 ·have h1:¬ (2000:Int)<src.length:=by omega
  have HL:=qh (¬ 2000<src.length) qo
  have HG0:=qh (Zaj (w.alloc (.cells #[] 101)) w.heap.size 101 4 (some ⟨w.heap.size,0,none⟩) 0 0 []) (Zaj.lit w #[] 0 rfl (Nat.le_refl _) (Nat.zero_le _))
  go_enter Tryz.func59,Tryz.ntmps59
  go_wp2_with fail
  go_loopw [4,5] (λo_ a_ wr=>∃ (a:Nat) (l:List Zam) (A:OA) (c:Nat),a<=src.length/\a_=.int .i64 a/\o_=.slice A l.length c/\Zqr src a l/\Zaj wr w.heap.size 101 4 A l.length c (Zip l)/\Bw w wr) (λ_ a_ _=>src.length-(RowKit.intOf a_).toNat)
  case atStart=>exact ⟨0,[],_,_,Nat.zero_le _,rfl,rfl,Zqr.zero _,HG0.out,bll⟩
  case round =>
   obtain ⟨a,l,A,c,hal,rfl,rfl,ht,hg,hb⟩:=hrel
   obtain ⟨wo,rfl⟩:=qe wr
   have hla:=ht.1
   have hz:=hb.size
   have HT:=hdQ ht
   have HG:=hdQ hg
   have HB:=hdQ hb
   clear ht hg hb HG0
   rcases Nat.lt_or_ge a src.length with hlt|hge
   ·obtain ⟨b,hb⟩:∃ b,src[a]? = some b:=⟨_,List.getElem?_eq_getElem hlt⟩
    have hat:=Znw hb
    have HBt:=hdQ hb
    have hlt':(a:Int)<src.length:=qo
    clear hb
    by_cases h32:b=32
    ·subst h32
     have HN:=hdQ (HT.out.space HBt.out qd)
     go_wp2_with fail
     go_roundw
     case rel=>exact ⟨a+1,l,_,_,qo,qg,rfl,HN.out,HG.out,HB.out⟩
     case measure=>exact qn
    ·by_cases h10:b=10
     ·subst h10
      have HN:=hdQ (HT.out.space HBt.out qd)
      go_wp2_with fail
      go_roundw
      case rel=>exact ⟨a+1,l,_,_,qo,qg,rfl,HN.out,HG.out,HB.out⟩
      case measure=>exact qn
     ·have HSP:=hdQ (isSp_no h32 h10)
      have e1:((b.toNat:Int)==32)=false:=by rw [beq_eq_false_iff_ne];intro h;exact h32 (UInt8.toNat_inj.1 (by show b.toNat=32;omega))
      have e2:((b.toNat:Int)==10)=false:=by rw [beq_eq_false_iff_ne];intro h;exact h10 (UInt8.toNat_inj.1 (by show b.toNat=10;omega))
      have HSC:=qh (∀ wx,CL 120 #[str src,.int .i64 a] wx λe w'=>∃ v,e=.returned v/\Zcq src a v/\Bw wx w') (λwx=>Zx8 wx hlt hs)
      clear h32 h10
      cases hk:Zaq (src.drop a) with
      | none =>
       have HF:=hdQ (HT.out.bad HL.out HBt.out HSP.out hk)
       have HC:=qh (∀ wx,CL 120 #[str src,.int .i64 a] wx λe w'=>∃ (x:Zam) (e':Nat),e=.returned (.tuple #[Zhi x,.int .i64 e',.bool false])/\Bw wx w') (λwx=>(HSC.out wx).mono (λe w' h=>by obtain ⟨v,rfl,hv,hb⟩:=h;unfold Zcq at hv;rw [hk] at hv;obtain ⟨x,e',rfl⟩:=hv;exact ⟨x,e',rfl,hb⟩))
       clear hk
       go_wp2_with (first|(go_at_call 120;refine (HC.out _).mono ?_;rintro e w1 ⟨x,e',rfl,hb1⟩;have hz1:=hb1.size;have HB1:=qh (Bw w w1) (Below.step hb1 HB.out HB.out.size);clear hb1)|fail)
       go_ret2
       exact Zcn.no HF.out bll
      | some q =>
       obtain ⟨k,m,v⟩:=q
       have hm:=Zc7 hk
       rw [List.length_drop] at hm
       have HN:=hdQ (HT.out.tok HBt.out HSP.out hk)
       obtain ⟨u,hu⟩:=qv ((src.drop a).take m)
       obtain ⟨E,hE⟩:=qv (a+m)
       have HC:=qh (∀ wx,CR 120 #[str src,.int .i64 a] wx (.tuple #[Zhi (k,u,(v:Int),(a:Int)),.int .i64 E,.bool true])) (λwx=>(HSC.out wx).mono (λe w' h=>by obtain ⟨v,rfl,hv,hb⟩:=h;unfold Zcq at hv;rw [hk] at hv;dsimp only at hv;rw [hu,hE] at hv;subst hv;exact ⟨rfl,hb⟩))
       rw [hu,hE] at HN
       have hE1:E<=src.length:=qo
       have hE2:a<E:=qo
       clear hk hu hE hm
       go_wp2_with (first|(go_at_call 120;refine (HC.out _).mono ?_;rintro e w1 ⟨rfl,hb1⟩;have hz1:=hb1.size;have HB1:=qh (Bw w w1) (Below.step hb1 HB.out HB.out.size);have HG1:=hdQ (Zaj.step hb1 HG.out);clear hb1)|(at_builtin;refine wpA (w.heap.size) Tryz.underlying94 T.infoToken (Zip l) (Zip [(k,u,(v:Int),(a:Int))]) (Zjv _) ?_ ?_ ?_;exact (gwx HG1.out);exact (ltt 1);rintro A' c' w2 gA;have g1:=gA.1;have g2:=gA.2.1;rw [Zh8] at g1;have HG2:=hdQ g1;have HB2:=qh (Bw w w2) (Below.trans bll g2);clear gA g1 g2)|fail)
       go_roundw
       case rel=>exact ⟨E,_,_,_,hE1,rfl,by rw [List.length_append];rfl,HN.out,by rw [List.length_append];exact HG2.out,HB2.out⟩
       case measure=>exact qn
   ·obtain rfl:a=src.length:=by omega
    have HF:=hdQ (HT.out.done HL.out)
    go_wp2_with (first|(at_builtin;refine wpA (w.heap.size) Tryz.underlying94 T.infoToken (Zip l) (Zip [(0,[],0,(src.length:Int))]) (Zjv _) ?_ ?_ ?_;exact (gwx HG.out);exact (ltt 1);rintro A' c' w2 gA;have g1:=gA.1;have g2:=gA.2.1;rw [Zh8] at g1;have HG2:=hdQ g1;have HB2:=qh (Bw w w2) (Below.trans bll g2);clear gA g1 g2)|fail)
    go_ret2
    exact Zcn.yes HF.out (by rw [List.length_append];rfl) HG2.out HB2.out
end
section
variable {P:Program} {ops:Array Oper} {Q:Exit->Act->World->Prop} {md:Region.Mode} {S:World->Prop} {m:Nat}
def Zar (P:Program) (md:Region.Mode) (ops:Array Oper) (Q:Exit->Act->World->Prop) (S:World->Prop) (m:Nat):Nat->Array Bool->Act->World->Prop
 | 0,listed,a,w=>Region.ready md ops listed=[]/\Q .normal a w
 | fuel+1,listed,a,w =>
  (Region.ready md ops listed=[]->Q .normal a w) /\
  ∀ i∈Region.ready md ops listed,wpOp P ops Q i (λa' w'=>(i≠m->S w')/\Zar P md ops Q S m fuel (listed.setIfInBounds i true) a' w') a w
theorem Zmc:∀ (fuel:Nat) (listed:Array Bool) (a:Act) (w:World),Zar P md ops Q S m fuel listed a w->wpAny P md ops Q fuel listed a w
 | 0,_,_,_,h=>h
 | fuel+1,_,_,_,h=>⟨h.1,λi hi=>wpOp_mono (λa' w' h'=>Zmc fuel _ a' w' h'.2) (h.2 i hi)⟩
theorem Zoo {i:Nat} {oi:Oper} {v:Value} (hi:ops[i]? = some oi) (hsel:∀ (j:Nat) (o:Oper) cs b,ops[j]? = some o->o.op ≠ .select cs b)
  (hQ:∀ c a w,Q (.panic c) (a.put oi.dst v) w->Q (.panic c) a w) (hm:Region.waitsFor md ops m i=true) :
  ∀ (fuel:Nat) (listed:Array Bool) (a:Act) (w:World),
   (∀ j oj,ops[j]? = some oj->j≠i->listed.getD j true=false->(∀ e∈oj.after,Region.binds md e=true->e.on≠i)->oi.apart ops oj=true) ->
   i∈Region.ready md ops listed->YieldsIf P ops S oi v a->S w ->
   Zar P md ops Q S m fuel (listed.setIfInBounds i true) (a.put oi.dst v) w->Zar P md ops Q S m (fuel+1) listed a w:=by
 intro fuel
 induction fuel with
 | zero =>
  intro listed a w _ hr hy hS H
  refine ⟨λh=>(by rw [h] at hr;cases hr),λj hj=>?_⟩
  by_cases hji:j=i
  ·subst hji;exact hy.wpOp hi hS ⟨λ_=>hS,H⟩
  ·have:=ready_mono hj hji
   rw [H.1] at this
   cases this
 | succ fuel ih =>
  intro listed a w hfree hr hy hS H
  refine ⟨λh=>(by rw [h] at hr;cases hr),λj hj=>?_⟩
  by_cases hji:j=i
  ·subst hji;exact hy.wpOp hi hS ⟨λ_=>hS,H⟩
  ·have h1:=H.2 j (ready_mono hj hji)
   obtain ⟨hjun,oj,hoj,hall⟩:=mem_ready.1 hj
   have hno:∀ e∈oj.after,Region.binds md e=true->e.on≠i:=λe he hb heq=>by
    have h1:=hall e he hb
    have h0:=(mem_ready.1 hr).1
    rw [heq,getD_both h0] at h1
    cases h1
   have hjm:j≠m:=λe=>by
    obtain ⟨om,hom,e',he',hb',hon⟩:=Region.waitsFor_spec hm
    rw [<- e,hoj] at hom
    obtain rfl:=Option.some.inj hom
    exact hno e' he' hb' hon
   have h2:=wpOp_putIf hoj (hfree j oj hoj hji hjun hno) (λcs b=>hsel i oi cs b hi) (λcs b=>hsel j oj cs b hoj) hQ hy h1
   have hfree':∀ k ok,ops[k]? = some ok->k≠i->(listed.setIfInBounds j true).getD k true=false ->
     (∀ e∈ok.after,Region.binds md e=true->e.on≠i)->oi.apart ops ok=true:=λk ok hk hki hun hno=>by
    refine hfree k ok hk hki ?_ hno
    by_cases hjk:j=k
    ·subst hjk;exact hjun
    ·rw [getD_set_ne true hjk] at hun;exact hun
   refine wpOp_mono (λa' w' h3=>⟨h3.2.1,ih (listed.setIfInBounds j true) a' w' hfree' (ready_mono hr (Ne.symm hji)) h3.1 (h3.2.1 hjm) ?_⟩) h2
   rw [Array.setIfInBounds_comm _ _ hji]
   exact h3.2.2
theorem Zj2 {i:Nat} {oi:Oper} {v:Value} {fuel:Nat} {listed:Array Bool} {a:Act} {w:World} (hi:ops[i]? = some oi)
  (hs:Region.noSelect ops=true) (hm:Region.waitsFor md ops m i=true) (hf:Region.free md ops listed i=true) (hr:(Region.ready md ops listed).contains i=true)
  (hQ:∀ c a w,Q (.panic c) (a.put oi.dst v) w->Q (.panic c) a w) (hy:YieldsIf P ops S oi v a) (hS:S w)
  (h:Zar P md ops Q S m fuel (listed.setIfInBounds i true) (a.put oi.dst v) w):Zar P md ops Q S m (fuel+1) listed a w :=
 Zoo hi (Region.noSelect_spec hs) hQ hm fuel listed a w (Region.free_spec hi hf) (by simpa using hr) hy hS h
theorem Zaa {i:Nat} {o:Oper} {fuel:Nat} {listed:Array Bool} {a:Act} {w:World} (ho:ops[i]? = some o) (hr:Region.ready md ops listed=[i])
  (h:∀ K':Act->World->Prop,Shut (∀ a w,(i≠m->S w)->((i≠m->S w)->Zar P md ops Q S m fuel (listed.setIfInBounds i true) a w)->K' a w)->if Region.wanted o (yielded ops a.tmps)=true then Oper.wp P o a w K' Q else K' (a.put o.dst undef) w) :
  Zar P md ops Q S m (fuel+1) listed a w:=by
 refine ⟨λh0=>(by rw [hr] at h0;cases h0),λj hj=>?_⟩
 rw [hr] at hj
 obtain rfl:j=i:=by simpa using hj
 exact wpOp_step ho (λK' hK=>h K' (λa w hS hW=>hK a w ⟨hS,hW hS⟩))
theorem Zbd {listed:Array Bool} {a:Act} {w:World} (hr:Region.ready md ops listed=[]) (h:Q .normal a w):∀ fuel,Zar P md ops Q S m fuel listed a w
 | 0=>⟨hr,h⟩
 | _+1=>⟨λ_=>h,by rw [hr];simp⟩
theorem Zbc {id:Nat} {a:Act} {w:World} (m:Nat) (hm:P.follows .mixedOrders=true) (hS:S w.drew)
  (h:S w.drew->Zar P .any ops Q S m ops.size (Array.replicate ops.size false) a w.drew):(Code.region id ops true).wp P Q a w :=
 wp_region_any hm (Zmc _ _ _ _ (h hS))
theorem tkM {P:Program} {md:Region.Mode} {ops:Array Oper} {Q:Exit->Act->World->Prop} {S:World->Prop} {m:Nat} (i:Nat) {oi:Oper} {v:Value} {fuel:Nat} {listed:Array Bool} {a:Act} {w:World}
  (h:Zar P md ops Q S m fuel (listed.setIfInBounds i true) (a.put oi.dst v) w) (hi:ops[i]? = some oi:=by rfl) (hv:∀ w,S w->(execOp a.eval oi).run P w=.ok (.value v) w:=by intro w hSw;(try dsimp only at hSw);go_simp;try with_reducible rfl)
  (hs:Region.noSelect ops=true:=by kernel_rfl) (hm:Region.waitsFor md ops m i=true:=by kernel_rfl) (hf:Region.free md ops listed i=true:=by kernel_rfl) (hr:(Region.ready md ops listed).contains i=true:=by kernel_rfl)
  (hQ:∀ c a w,Q (.panic c) (a.put oi.dst v) w->Q (.panic c) a w:=by exact λ_ _ _ h=>h) (hw:Region.wanted oi (yielded ops a.tmps)=true:=by rfl) (hS:S w:=by assumption):Zar P md ops Q S m (fuel+1) listed a w :=
 Zj2 hi hs hm hf hr hQ (Or.inl ⟨hw,hv⟩) hS h
set_option maxRecDepth 100000
open Go.RowKit Go.Lib
def cAss (x:Zab):List Value:=[str x.1,.int .i64 x.2]
abbrev Zjb (l:List Zab):List Value:=rowOf cAss l
theorem rAss_len (l:List Zab):(Zjb l).length=l.length*2:=Zwj (f:=cAss) (s:=2) (λ_=>rfl) l
theorem Zq5 {l:List Zab} {k:Nat} (hk:k<l.length):(Zjb l)[k*2]? = some (str l[k].1)/\(Zjb l)[k*2+1]? = some (.int .i64 l[k].2):=by
 have h:=Zno (f:=cAss) (s:=2) (λ_=>rfl) l k
 exact ⟨h 0 hk qo,h 1 hk qo⟩
theorem Znq (l:List Zab):∀ u∈Zjb l,u.oneCell'=true:=by
 intro u hu
 obtain ⟨x,_,hx⟩:=List.mem_flatMap.1 hu
 simp only [cAss,List.mem_cons,List.not_mem_nil,or_false] at hx
 rcases hx with rfl|rfl<;>rfl
theorem Zwn (l:List Zab) (x:Zab):Zjb l++Zjb [x]=Zjb (l++[x]):=by simp [Zjb,rowOf]
abbrev Zhn (op:Int) (name:List UInt8) (num:Int) (v:Value):Value:=.agg #[.int .i64 op,str name,.int .i64 num,v]
theorem Znu (op:Int) (name:List UInt8) (num:Int) (v:Value) (hv:v.oneCell'=true:=by rfl):∀ u∈[.int .i64 op,str name,.int .i64 num,v],u.oneCell'=true:=by
 intro u hu
 simp only [List.mem_cons,List.not_mem_nil,or_false] at hu
 rcases hu with rfl|rfl|rfl|rfl<;>first|rfl|exact hv
def Zlz (w:World) (X:List Nat) (cs:List Value) (x:Zac):Prop :=
 ∃ A c,cs=[.int .i64 x.1,str x.2.1,.int .i64 x.2.2.1,.slice A x.2.2.2.length c]/\Zdb w 1 A x.2.2.2.length c 3 (ints x.2.2.2)/\∀ y,y∈gOf A->y∉X
theorem Zlz.one {w:World} {X:List Nat} {cs:List Value} {x:Zac} (h:Zlz w X cs x):∀ u∈cs,u.oneCell'=true:=by
 obtain ⟨A,c,rfl,_⟩:=h
 intro u hu
 simp only [List.mem_cons,List.not_mem_nil,or_false] at hu
 rcases hu with rfl|rfl|rfl|rfl<;>rfl
theorem Zlz.len {w:World} {X:List Nat} {cs:List Value} {x:Zac} (h:Zlz w X cs x):cs.length=4:=by
 obtain ⟨A,c,rfl,_⟩:=h;rfl
theorem RS.keep {w w':World} {size n c:Nat} {A:OA} {xs:List Value} (h:RS w size A n c xs) (hz:w.heap.size<=w'.heap.size) (hg:0<n->∀ x,x∈gOf A->x<w.heap.size->w'.heap[x]? = w.heap[x]?):RS w' size A n c xs:=by
 obtain ⟨hl,A',c',hs,h1,h2,hr⟩:=h
 injection hs with e1 _ e2
 subst e1;subst e2
 refine ⟨hl,A,c,rfl,h1,h2,λhn=>?_⟩
 obtain ⟨b,o,rfl,h4,h5,h6⟩:=hr hn
 refine ⟨b,o,rfl,h4,Nat.lt_of_lt_of_le h5 hz,λj hj=>?_⟩
 rw [<- h6 j hj]
 exact World.cell?_of_block (hg hn b (by simp [gOf]) h5)
theorem Zdb.keep {w w':World} {sz n c:Nat} {A:OA} {t:TypeId} {cs:List Value} (h:Zdb w sz A n c t cs) (hg:∀ x,x∈gOf A->x<w.heap.size->w'.heap[x]? = w.heap[x]?):Zdb w' sz A n c t cs:=by
 obtain ⟨h1,h2,h3,h4⟩:=h
 refine ⟨h1,h2,h3, ?_⟩
 rcases h4 with ⟨rfl,h5⟩|⟨g,ds,rfl,ho⟩
 ·exact .inl ⟨rfl,h5⟩
 ·exact .inr ⟨g,ds,rfl,(hg g (by simp [gOf]) ho.lt).trans ho⟩
theorem Zlz.move {w w':World} {X Y:List Nat} {cs:List Value} {x:Zac} (h:Zlz w X cs x) (hX:∀ y,y∉X->y<w.heap.size->w'.heap[y]? = w.heap[y]?) (hY:∀ y,y∈Y->y∈X∨w.heap.size<=y):Zlz w' Y cs x:=by
 obtain ⟨A,c,rfl,hr,ha⟩:=h
 refine ⟨A,c,rfl,hr.keep (λy hy hl=>hX y (ha y hy) hl),λy hy hyY=>?_⟩
 have:=hr.lt y hy
 rcases hY y hyY with h1|h1
 ·exact ha y hy h1
 ·omega
def Zb9 (w:World) (X:List Nat) (cs:List Value) (ns:List Zac):Prop:=∀ (i:Nat) (h:i<ns.length),Zlz w X ((cs.drop (i*4)).take 4) ns[i]
theorem Zb9.move {w w':World} {X Y:List Nat} {cs:List Value} {ns:List Zac} (h:Zb9 w X cs ns) (hX:∀ y,y∉X->y<w.heap.size->w'.heap[y]? = w.heap[y]?) (hY:∀ y,y∈Y->y∈X∨w.heap.size<=y):Zb9 w' Y cs ns:=λi hi=>(h i hi).move hX hY
theorem Zb9.keep {w w':World} {X:List Nat} {cs:List Value} {ns:List Zac} (h:Zb9 w X cs ns) (hX:∀ y,y∉X->y<w.heap.size->w'.heap[y]? = w.heap[y]?):Zb9 w' X cs ns:=h.move hX (λy hy=>.inl hy)
theorem Zb9.set_ {w:World} {X Y:List Nat} {cs:List Value} {ns:List Zac} (h:Zb9 w X cs ns) (hY:∀ y,y∈Y->y∈X∨w.heap.size<=y):Zb9 w Y cs ns:=h.move (λ_ _ _=>rfl) hY
theorem Zb9.nil (w:World) (X:List Nat) (cs:List Value):Zb9 w X cs []:=λi h=>absurd h qs
theorem Zb9.snoc {w:World} {X:List Nat} {cs zs:List Value} {ns:List Zac} {x:Zac} (h:Zb9 w X cs ns) (hl:cs.length=ns.length*4) (hz:Zlz w X zs x):Zb9 w X (cs++zs) (ns++[x]):=by
 intro i hi
 rcases Nat.lt_or_ge i ns.length with h1|h1
 ·rw [List.getElem_append_left h1]
  have:(i+1)*4<=ns.length*4:=Nat.mul_le_mul_right _ h1
  rw [List.drop_append_of_le_length qo,List.take_append_of_le_length (by rw [List.length_drop];omega)]
  exact h i h1
 ·have e:i=ns.length:=by simp at hi;omega
  subst e
  rw [List.getElem_concat_length rfl,<- hl,List.drop_left,<- hz.len,List.take_length]
  exact hz
def Zfb (cs:List Value) (n:Nat):Prop:=∀ (i j:Nat) (A B:OA) (l m c d:Nat),i<j->j<n->cs[i*4+3]? = some (.slice A l c)->cs[j*4+3]? = some (.slice B m d)->∀ y,y∈gOf A->y∉gOf B
theorem Zfb.nil (cs:List Value):Zfb cs 0:=λi j _ _ _ _ _ _ _ hj=>absurd hj qo
theorem Zb9.arg {w:World} {X:List Nat} {cs:List Value} {ns:List Zac} (h:Zb9 w X cs ns) (hl:cs.length=ns.length*4) {i:Nat} (hi:i<ns.length) {A:OA} {l c:Nat} (hA:cs[i*4+3]? = some (.slice A l c)):∀ y,y∈gOf A->y∉X:=by
 obtain ⟨A',c',hcs,hr,ha⟩:=h i hi
 have e:((cs.drop (i*4)).take 4)[3]? = some (.slice A l c):=by rw [List.getElem?_take_of_lt qo,List.getElem?_drop,hA]
 rw [hcs] at e
 simp only [List.getElem?_cons_succ,List.getElem?_cons_zero,Option.some.injEq,Value.slice.injEq] at e
 obtain ⟨rfl,rfl,rfl⟩:=e
 exact ha
theorem Zfb.snoc {w:World} {X:List Nat} {cs:List Value} {ns:List Zac} {A:OA} {l c:Nat} {v0 v1 v2:Value} (h:Zfb cs ns.length) (hn:Zb9 w X cs ns) (hl:cs.length=ns.length*4) (hX:∀ y,y∈gOf A->y∈X):Zfb (cs++[v0,v1,v2,.slice A l c]) (ns.length+1):=by
 intro i j A1 B1 l1 m1 c1 d1 hij hj h1 h2 y hy
 have hi:i*4+3<cs.length:=by rw [hl];omega
 rw [List.getElem?_append_left hi] at h1
 rcases Nat.lt_or_ge j ns.length with hjl|hjl
 ·rw [List.getElem?_append_left (by rw [hl];omega)] at h2
  exact h i j A1 B1 l1 m1 c1 d1 hij hjl h1 h2 y hy
 ·obtain rfl:j=ns.length:=by omega
  rw [List.getElem?_append_right (by rw [hl];omega),hl,show ns.length*4+3-ns.length*4=3 by omega] at h2
  simp only [List.getElem?_cons_succ,List.getElem?_cons_zero,Option.some.injEq,Value.slice.injEq] at h2
  obtain ⟨rfl,rfl,rfl⟩:=h2
  exact λq=>hn.arg hl qo h1 y hy (hX y q)
theorem Only.al {B:Nat} {G:List Nat} {w w':World} (h:Only B G w w') (hB:B<=w'.heap.size) (o:Obj):Only B G w (w'.alloc o) :=
 ⟨h.os,h.tape,h.output,Nat.le_trans h.size qs,λy hy hG=>(Below.heap_alloc w' o y qo).trans (h.block y hy hG)⟩
theorem Only.mono' {B:Nat} {G H:List Nat} {w w':World} (h:Only B G w w') (hG:∀ x,x∈G->x∈H):Only B H w w':=⟨h.os,h.tape,h.output,h.size,λy hy hH=>h.block y hy (λhx=>hH (hG y hx))⟩
theorem Only.sub {B C:Nat} {G H:List Nat} {a b c:World} (h:Only B G a b) (k:Only C H b c) (hB:B<=C) (hH:∀ x,x∈H->x∈G∨B<=x):Only B G a c :=
 ⟨k.os.trans h.os,k.tape.trans h.tape,k.output.trans h.output,Nat.le_trans h.size k.size,λy hy hG=>(k.block y qo (λhyH=>by rcases hH y hyH with h1|h1;exact hG h1;omega)).trans (h.block y hy hG)⟩
theorem T.infoNode:(Tryz.prog.info? 155).map (λi=>(i.zero,i.size,i.bytes))=some (some (.agg #[.int .i64 0,.string ByteArray.empty,.int .i64 0,.slice none 0 0]),4,56):=kr
theorem T.infoAss:(Tryz.prog.info? 106).map (λi=>(i.zero,i.size,i.bytes))=some (some (.agg #[.string ByteArray.empty,.int .i64 0]),2,24):=kr
structure PMem (w:World) (B base:Nat) (TA:OA) (tc:Nat) (T:List Zam) (AA:OA) (ac:Nat) (as_:List Zab) (X:List Nat) (NA:OA) (nc:Nat) (ns:List Zac):Prop where
 tok:RS w 4 TA T.length tc (Zip T)
 ass:Zaj w base 106 2 AA as_.length ac (Zjb as_)
 nod:∃ cs,Zaj w base 155 4 NA ns.length nc cs/\Zb9 w (B::(gOf NA++gOf AA++X)) cs ns/\Zfb cs ns.length
 apT:∀ x,x∈gOf TA->x≠B/\x∉gOf NA/\x∉gOf AA/\x∉X
 apN:∀ x,x∈gOf NA->x≠B/\x∉gOf AA/\x∉X
 apA:∀ x,x∈gOf AA->x≠B/\x∉X
 low:base<=w.heap.size
 blt:B<w.heap.size
 tlt:∀ x,x∈gOf TA->x<w.heap.size
 xlt:∀ x,x∈X->x<w.heap.size/\x≠B
 cap:ns.length<=60
section
variable {w w':World} {B base:Nat} {TA:OA} {tc:Nat} {T:List Zam} {AA:OA} {ac:Nat} {as_:List Zab} {X Y:List Nat} {NA:OA} {nc:Nat} {ns:List Zac}
theorem PMem.keepX (h:PMem w B base TA tc T AA ac as_ X NA nc ns) (hz:w.heap.size<=w'.heap.size) (hb:∀ x,x≠B->x∉X->x<w.heap.size->w'.heap[x]? = w.heap[x]?):PMem w' B base TA tc T AA ac as_ X NA nc ns:=by
 obtain ⟨cs,hg,hn,hp⟩:=h.nod
 exact ⟨h.tok.keep hz (λ_ x hx hl=>hb x (h.apT x hx).1 (h.apT x hx).2.2.2 hl),h.ass.keep (λx hx=>hb x (h.apA x hx).1 (h.apA x hx).2 (h.ass.lt x hx)),⟨cs,hg.keep (λx hx=>hb x (h.apN x hx).1 (h.apN x hx).2.2 (hg.lt x hx)),hn.keep (λy hy hl=>hb y (λe=>hy (by simp [e])) (λe=>hy (by simp [e])) hl),hp⟩,h.apT,h.apN,h.apA,Nat.le_trans h.low hz,Nat.lt_of_lt_of_le h.blt hz,λx hx=>Nat.lt_of_lt_of_le (h.tlt x hx) hz,λx hx=>⟨Nat.lt_of_lt_of_le (h.xlt x hx).1 hz,(h.xlt x hx).2⟩,h.cap⟩
theorem PMem.keep (h:PMem w B base TA tc T AA ac as_ X NA nc ns) (hz:w.heap.size<=w'.heap.size) (hb:∀ x,x≠B->x<w.heap.size->w'.heap[x]? = w.heap[x]?):PMem w' B base TA tc T AA ac as_ X NA nc ns:=h.keepX hz (λx h1 _ h2=>hb x h1 h2)
theorem PMem.step (hb:Bw w w') (h:PMem w B base TA tc T AA ac as_ X NA nc ns):PMem w' B base TA tc T AA ac as_ X NA nc ns:=h.keep hb.size (λx _ hl=>hb.block x hl)
theorem PMem.set_ (h:PMem w B base TA tc T AA ac as_ X NA nc ns) (i:Nat) (v:Value):PMem (w.setCell ⟨B,i,none⟩ v) B base TA tc T AA ac as_ X NA nc ns:=h.keep (by simp [World.setCell]) (λx hx _=>Below.heap_setCell _ _ _ _ hx)
theorem PMem.drew (h:PMem w B base TA tc T AA ac as_ X NA nc ns):PMem w.drew B base TA tc T AA ac as_ X NA nc ns:=h.keep (Nat.le_refl _) (λ_ _ _=>rfl)
theorem PMem.own (h:PMem w B base TA tc T AA ac as_ X NA nc ns) (hb:Bw w w') (hY:∀ y,y∈Y->y<w'.heap.size/\(y∈X∨w.heap.size<=y)):PMem w' B base TA tc T AA ac as_ Y NA nc ns:=by
 obtain ⟨cs,hg,hn,hp⟩:=h.nod
 have k:=h.step hb
 have hN:=hg.lt
 have hA:=h.ass.lt
 have hT:=h.tlt
 have hB:=h.blt
 refine ⟨k.tok,k.ass,⟨cs,hg.step hb,hn.move (λy _ hl=>hb.block y hl) (λy hy=>?_),hp⟩,λx hx=>?_,λx hx=>?_,λx hx=>?_,k.low,k.blt,k.tlt,λx hx=>⟨(hY x hx).1, ?_⟩,h.cap⟩
 ·simp only [List.mem_cons,List.mem_append] at hy ⊢
  rcases hy with rfl|(hy|hy)|hy
  ·exact .inl (.inl rfl)
  ·exact .inl (.inr (.inl (.inl hy)))
  ·exact .inl (.inr (.inl (.inr hy)))
  ·exact (hY y hy).2.imp (λq=>.inr (.inr q)) id
 ·obtain ⟨h1,h2,h3,h4⟩:=h.apT x hx
  refine ⟨h1,h2,h3,λq=>?_⟩
  have:=hT x hx
  rcases (hY x q).2 with r|r
  ·exact h4 r
  ·omega
 ·obtain ⟨h1,h2,h3⟩:=h.apN x hx
  refine ⟨h1,h2,λq=>?_⟩
  have:=hN x hx
  rcases (hY x q).2 with r|r
  ·exact h3 r
  ·omega
 ·obtain ⟨h1,h2⟩:=h.apA x hx
  refine ⟨h1,λq=>?_⟩
  have:=hA x hx
  rcases (hY x q).2 with r|r
  ·exact h2 r
  ·omega
 ·rcases (hY x hx).2 with r|r
  ·exact (h.xlt x r).2
  ·omega
theorem PMem.tokAt (h:PMem w B base TA tc T AA ac as_ X NA nc ns) {a:Nat} (ha:a<T.length):T.length<=tc/\tc<=maxLen/\∃ b o,TA=some ⟨b,o,none⟩/\b<w.heap.size/\b≠B/\w.cell? ⟨b,o+a*4,none⟩=some (.int .i64 (kd T a))/\w.cell? ⟨b,o+a*4+1,none⟩=some (str (tx T a))/\w.cell? ⟨b,o+a*4+2,none⟩=some (.int .i64 (nm T a))/\w.cell? ⟨b,o+a*4+3,none⟩=some (.int .i64 (of_ T a)):=by
 obtain ⟨h1,h2,h3⟩:=h.tok.open_
 obtain ⟨b,o,hA,hb,hc⟩:=h3 qo
 obtain ⟨q0,q1,q2,q3⟩:=rTok_at ha
 have e:tk T a=T[a]:=by unfold tk;simp [ha]
 refine ⟨h1,h2,b,o,hA,hb,(h.apT b (by rw [hA];simp [gOf])).1, ?_, ?_, ?_, ?_⟩
 ·rw [hc _ qo,q0];unfold kd;rw [e]
 ·rw [Nat.add_assoc,hc _ qo,q1];unfold tx;rw [e]
 ·rw [Nat.add_assoc,hc _ qo,q2];unfold nm;rw [e]
 ·rw [Nat.add_assoc,hc _ qo,q3];unfold of_;rw [e]
theorem PMem.emit {A A':OA} {c c':Nat} {cs:List Value} {op num:Int} {name:List UInt8} {args:List Int} (h0:PMem w B base TA tc T AA ac as_ (gOf A++X) NA nc ns) (hl:ns.length<60) (hg:Zaj w base 155 4 NA ns.length nc cs) (hn0:Zb9 w (B::(gOf NA++gOf AA++(gOf A++X))) cs ns) (hp:Zfb cs ns.length)
  (hr:Zdb w 1 A args.length c 3 (ints args)) (hAX:∀ y,y∈gOf A->y∉X)
  (ap:Za8 w base 155 4 NA ns.length (cs++[.int .i64 op,str name,.int .i64 num,.slice A args.length c]) A' (ns.length+1) c' w'):PMem w' B base TA tc T AA ac as_ X A' c' (ns++[(op,name,num,args)])/\Only w.heap.size (gOf NA) w w'/\(∀ y,y∈gOf A'->y∈gOf NA∨y=w.heap.size):=by
 have h:PMem w B base TA tc T AA ac as_ X NA nc ns:=h0.own (Below.refl _ _) (λy hy=>⟨(h0.xlt y (by simp [hy])).1,.inl (by simp [hy])⟩)
 have hn:Zb9 w (B::(gOf NA++gOf AA++X)) cs ns:=hn0.set_ (λy hy=>.inl (by simp only [List.mem_cons,List.mem_append] at hy ⊢;rcases hy with q|(q|q)|q<;>simp [q]))
 have hz:Zlz w (B::(gOf NA++gOf AA++X)) [.int .i64 op,str name,.int .i64 num,.slice A args.length c] (op,name,num,args):=⟨A,c,rfl,hr,λy hy=>by
  simp only [List.mem_cons,List.mem_append,not_or]
  exact ⟨(h0.xlt y (by simp [hy])).2,⟨λq=>(h0.apN y q).2.2 (by simp [hy]),λq=>(h0.apA y q).2 (by simp [hy])⟩,hAX y hy⟩⟩
 have hp2:Zfb (cs++[.int .i64 op,str name,.int .i64 num,.slice A args.length c]) (ns.length+1):=hp.snoc hn0 hg.len (λy hy=>by simp [hy])
 have hblk:∀ y,y<w.heap.size->y∉gOf NA->w'.heap[y]? = w.heap[y]? := λy hy hN=>ap.2.2.1.block y hy (by cases NA<;>simp_all [gOf])
 have hsz:=ap.2.2.2.1
 have hA:∀ y,y∈gOf A'->y∈gOf NA∨y=w.heap.size:=λy hy=>by
  rcases ap.2.2.2.2 with e|e
  ·rw [e] at hy;exact .inl hy
  ·rw [e] at hy;right;simpa using hy
 refine ⟨⟨h.tok.keep hsz (λ_ x hx hl=>hblk x hl (h.apT x hx).2.1),h.ass.keep (λx hx=>hblk x (h.ass.lt x hx) (λhN=>(h.apN x hN).2.1 hx)),⟨cs++[.int .i64 op,str name,.int .i64 num,.slice A args.length c], ?_, ?_, ?_⟩,λy hy=>?_,λy hy=>?_,h.apA,Nat.le_trans h.low hsz,Nat.lt_of_lt_of_le h.blt hsz,λx hx=>Nat.lt_of_lt_of_le (h.tlt x hx) hsz,λx hx=>⟨Nat.lt_of_lt_of_le (h.xlt x hx).1 hsz,(h.xlt x hx).2⟩,by simp;omega⟩,⟨ap.2.1.os,ap.2.1.tape,ap.2.1.output,hsz,λy hy hN=>hblk y hy hN⟩,hA⟩
 ·have:=ap.1
  rw [List.length_append]
  exact this
 ·refine (Zb9.snoc hn hg.len hz).move (λy hy hl=>hblk y hl (λhN=>hy (by simp [hN]))) (λy hy=>?_)
  simp only [List.mem_cons,List.mem_append] at hy ⊢
  rcases hy with rfl|(hy|hy)|hy
  ·exact .inl (.inl rfl)
  ·rcases hA y hy with h2|h2
   ·exact .inl (.inr (.inl (.inl h2)))
   ·exact .inr qo
  ·exact .inl (.inr (.inl (.inr hy)))
  ·exact .inl (.inr (.inr hy))
 ·rw [List.length_append];exact hp2
 ·obtain ⟨h1,h2,h3⟩:=h.apT y hy
  refine ⟨h1,λhA'=>?_,h3⟩
  have:=h.tlt y hy
  rcases hA y hA' with h4|h4
  ·exact h2 h4
  ·omega
 ·rcases hA y hy with h4|h4
  ·exact h.apN y h4
  ·have:=h.blt
   exact ⟨qo,λh5=>by have:=h.ass.lt y h5;omega,λh5=>by have:=(h.xlt y h5).1;omega⟩
theorem PMem.put {W:World} {A A':OA} {c c':Nat} {cs:List Value} {op num:Int} {name:List UInt8} {args:List Int} (h:PMem w B base TA tc T AA ac as_ (gOf A++X) NA nc ns) (hl:ns.length<60) (hb:Bw w W) (hg:Zaj w base 155 4 NA ns.length nc cs) (hn:Zb9 w (B::(gOf NA++gOf AA++(gOf A++X))) cs ns) (hp:Zfb cs ns.length)
  (hr:Zdb w 1 A args.length c 3 (ints args)) (hAX:∀ y,y∈gOf A->y∉X)
  (ap:Za8 W base 155 4 NA ns.length (cs++[.int .i64 op,str name,.int .i64 num,.slice A args.length c]) A' (ns.length+1) c' w'):PMem w' B base TA tc T AA ac as_ X A' c' (ns++[(op,name,num,args)])/\Only w.heap.size (gOf NA) w w'/\(∀ y,y∈gOf A'->y∈gOf NA∨w.heap.size<=y):=by
 obtain ⟨h1,h2,h3⟩:=PMem.emit (h.step hb) hl (hg.step hb) (hn.keep (λy _ hl=>hb.block y hl)) hp (hr.step hb) hAX ap
 exact ⟨h1,Only.sub (Only.of_below hb _) h2 hb.size (λx hx=>.inl hx),λy hy=>(h3 y hy).imp id (λe=>by rw [e];exact hb.size)⟩
theorem PMem.app {e:TypeId} {size n n' c' base':Nat} {xs:List Value} {PA PA':OA} (h:PMem w B base TA tc T AA ac as_ (gOf PA++X) NA nc ns) (ap:Za8 w base' e size PA n xs PA' n' c' w'):PMem w' B base TA tc T AA ac as_ (gOf PA'++X) NA nc ns:=by
 have hblk:∀ y,y<w.heap.size->y∉gOf PA->w'.heap[y]? = w.heap[y]? := λy hy hN=>ap.2.2.1.block y hy (by cases PA<;>simp_all [gOf])
 have hsz:=ap.2.2.2.1
 have h1:PMem w' B base TA tc T AA ac as_ (gOf PA++X) NA nc ns:=h.keepX hsz (λx _ hX hl=>hblk x hl (λq=>hX (by simp [q])))
 have hlt:=ap.1.lt
 rcases ap.2.2.2.2 with q|q
 ·rw [q];exact h1
 ·rw [q]
  obtain ⟨cs,hg,hn,hp⟩:=h.nod
  have hN:=hg.lt
  have hA:=h.ass.lt
  refine ⟨h1.tok,h1.ass,⟨cs,hg.keep (λx hx=>hblk x (hN x hx) (λr=>(h.apN x hx).2.2 (by simp [r]))),hn.move (λy hy hl=>hblk y hl (λr=>hy (by simp [r]))) (λy hy=>?_),hp⟩,λx hx=>?_,λx hx=>?_,λx hx=>?_,h1.low,h1.blt,h1.tlt,λx hx=>?_,h.cap⟩
  ·simp only [List.mem_cons,List.mem_append,List.not_mem_nil,or_false] at hy ⊢
   rcases hy with rfl|(hy|hy)|hy|hy
   ·exact .inl (.inl rfl)
   ·exact .inl (.inr (.inl (.inl hy)))
   ·exact .inl (.inr (.inl (.inr hy)))
   ·right;omega
   ·exact .inl (.inr (.inr (.inr hy)))
  ·obtain ⟨a1,a2,a3,a4⟩:=h.apT x hx
   have:=h.tlt x hx
   exact ⟨a1,a2,a3,λr=>by simp at r;rcases r with r|r;omega;exact a4 (by simp [r])⟩
  ·obtain ⟨a1,a2,a3⟩:=h.apN x hx
   have:=hN x hx
   exact ⟨a1,a2,λr=>by simp at r;rcases r with r|r;omega;exact a3 (by simp [r])⟩
  ·obtain ⟨a1,a2⟩:=h.apA x hx
   have:=hA x hx
   exact ⟨a1,λr=>by simp at r;rcases r with r|r;omega;exact a2 (by simp [r])⟩
  ·simp only [List.mem_cons,List.mem_append,List.not_mem_nil,or_false] at hx
   rcases hx with rfl|hx
   ·have:=hlt w.heap.size (by rw [q];simp)
    have:=h.blt
    exact ⟨qo,qo⟩
   ·have:=h.xlt x (by simp [hx])
    exact ⟨qo,this.2⟩
theorem PMem.assign {W:World} {A':OA} {c':Nat} {x:Zab} (h0:PMem w B base TA tc T AA ac as_ X NA nc ns) (hb:Bw w W)
  (ap:Za8 W base 106 2 AA as_.length (Zjb as_++Zjb [x]) A' (as_.length+1) c' w'):PMem w' B base TA tc T A' c' (as_++[x]) X NA nc ns/\Only w.heap.size (gOf AA) w w'/\(∀ y,y∈gOf A'->y∈gOf AA∨w.heap.size<=y):=by
 have h:=h0.step hb
 have hblk:∀ y,y<W.heap.size->y∉gOf AA->w'.heap[y]? = W.heap[y]? := λy hy hN=>ap.2.2.1.block y hy (by cases AA<;>simp_all [gOf])
 have hsz:=ap.2.2.2.1
 have hA:∀ y,y∈gOf A'->y∈gOf AA∨y=W.heap.size:=λy hy=>by
  rcases ap.2.2.2.2 with e|e
  ·rw [e] at hy;exact .inl hy
  ·rw [e] at hy;right;simpa using hy
 obtain ⟨cs,hg,hn,hp⟩:=h.nod
 refine ⟨⟨h.tok.keep hsz (λ_ x hx hl=>hblk x hl (h.apT x hx).2.2.1), ?_,⟨cs,hg.keep (λx hx=>hblk x (hg.lt x hx) (h.apN x hx).2.1), ?_,hp⟩,λy hy=>?_,λy hy=>?_,λy hy=>?_,Nat.le_trans h.low hsz,Nat.lt_of_lt_of_le h.blt hsz,λx hx=>Nat.lt_of_lt_of_le (h.tlt x hx) hsz,λx hx=>⟨Nat.lt_of_lt_of_le (h.xlt x hx).1 hsz,(h.xlt x hx).2⟩,h.cap⟩,Only.sub (Only.of_below hb _) ⟨ap.2.1.os,ap.2.1.tape,ap.2.1.output,hsz,λy hy hN=>hblk y hy hN⟩ hb.size (λx hx=>.inl hx),λy hy=>(hA y hy).imp id (λe=>by rw [e];exact hb.size)⟩
 ·have:=ap.1
  rw [Zwn] at this
  rw [List.length_append]
  exact this
 ·refine hn.move (λy hy hl=>hblk y hl (λhN=>hy (by simp [hN]))) (λy hy=>?_)
  simp only [List.mem_cons,List.mem_append] at hy ⊢
  rcases hy with rfl|(hy|hy)|hy
  ·exact .inl (.inl rfl)
  ·exact .inl (.inr (.inl (.inl hy)))
  ·rcases hA y hy with h2|h2
   ·exact .inl (.inr (.inl (.inr h2)))
   ·exact .inr qo
  ·exact .inl (.inr (.inr hy))
 ·obtain ⟨h1,h2,h3,h4⟩:=h.apT y hy
  refine ⟨h1,h2,λq=>?_,h4⟩
  have:=h.tlt y hy
  rcases hA y q with r|r
  ·exact h3 r
  ·omega
 ·obtain ⟨h1,h2,h3⟩:=h.apN y hy
  refine ⟨h1,λq=>?_,h3⟩
  have:=hg.lt y hy
  rcases hA y q with r|r
  ·exact h2 r
  ·omega
 ·rcases hA y hy with r|r
  ·exact h.apA y r
  ·have:=h.blt
   exact ⟨qo,λq=>by have:=(h.xlt y q).1;omega⟩
end
def Zcb (w:World) (base:Nat) (NA:OA) (nc:Nat) (ns:List Zac) (AA:OA) (ac:Nat) (as_:List Zab):Prop :=
 Zaj w base 106 2 AA as_.length ac (Zjb as_)/\(∃ cs,Zaj w base 155 4 NA ns.length nc cs/\Zb9 w (gOf NA++gOf AA++List.range base) cs ns/\Zfb cs ns.length)/\(∀ x,x∈gOf NA->x∉gOf AA)/\ns.length<=60/\as_.length<=1048576
theorem Zcb.nil (w:World) (base:Nat):Zcb w base none 0 [] none 0 []:=⟨Zaj.nil _ _ _ _,⟨[],Zaj.nil _ _ _ _,Zb9.nil _ _ _,Zfb.nil _⟩,(λx hx=>by cases hx),qs,qs⟩
theorem PMem.progM {w:World} {B base:Nat} {TA:OA} {tc:Nat} {T:List Zam} {AA:OA} {ac:Nat} {as_:List Zab} {NA:OA} {nc:Nat} {ns:List Zac} (h:PMem w B base TA tc T AA ac as_ (List.range base) NA nc ns) (ha:as_.length<=1048576):Zcb w base NA nc ns AA ac as_:=by
 obtain ⟨cs,hg,hn,hp⟩:=h.nod
 exact ⟨h.ass,⟨cs,hg,hn.set_ (λy hy=>.inl (by simp only [List.mem_cons,List.mem_append] at hy ⊢;rcases hy with (q|q)|q<;>simp [q])),hp⟩,λx hx=>(h.apN x hx).2.1,h.cap,ha⟩
theorem Zcb.mono {w:World} {base b:Nat} {NA:OA} {nc:Nat} {ns:List Zac} {AA:OA} {ac:Nat} {as_:List Zab} (h:Zcb w base NA nc ns AA ac as_) (hb:b<=base):Zcb w b NA nc ns AA ac as_:=by
 obtain ⟨h1,⟨cs,hg,hn,hp⟩,h3,h4,h5⟩:=h
 exact ⟨h1.mono hb,⟨cs,hg.mono hb,hn.set_ (λy hy=>.inl (by simp only [List.mem_append,List.mem_range] at hy ⊢;rcases hy with (q|q)|q;simp [q];simp [q];right;omega)),hp⟩,h3,h4,h5⟩
def Zbo (src:List UInt8) (w:World) (e:Ending) (w':World):Prop :=
 ∃ NA nc AA ac,e=.returned (.tuple #[.agg #[.slice NA (parF src).1.1.length nc,.slice AA (parF src).1.2.length ac],.int .i64 (parF src).2])/\Zcb w' w.heap.size NA nc (parF src).1.1 AA ac (parF src).1.2/\Bw w w'
theorem Zbo.mk_ {src:List UInt8} {w w':World} {NA:OA} {nc:Nat} {AA:OA} {ac:Nat} {ns:List Zac} {as_:List Zab} {o:Int} {n m:Nat} (h:parF src=((ns,as_),o)) (hn:n=ns.length) (hm:m=as_.length) (hp:Zcb w' w.heap.size NA nc ns AA ac as_) (hb:Bw w w') :
  Zbo src w (.returned (.tuple #[.agg #[.slice NA n nc,.slice AA m ac],.int .i64 o])) w':=by
 subst hn;subst hm
 unfold Zbo
 rw [h]
 exact ⟨NA,nc,AA,ac,rfl,hp,hb⟩
theorem Zaj.own_ {w:World} {base g size n c:Nat} {e:TypeId} {xs ds:List Value} (h:Own w g e (xs++ds)) (hl:xs.length=n*size) (hd:(xs++ds).length=c*size) (hb:base<=g) (hn:n<=c) (hc:c<=maxLen):Zaj w base e size (some ⟨g,0,none⟩) n c xs:=by
 refine ⟨hl,.inr ⟨g,c,⟨xs++ds⟩,rfl,hb,h,hn,hc,hd, ?_⟩⟩
 show (xs++ds).take (n*size)=xs
 rw [<- hl];exact List.take_left' rfl
theorem Zaj.open_ {w:World} {base n c size:Nat} {e:TypeId} {A:OA} {xs:List Value} (h:Zaj w base e size A n c xs) (hn:0<n):∃ g ds,A=some ⟨g,0,none⟩/\base<=g/\Own w g e (xs++ds)/\n<=c/\c<=maxLen/\(xs++ds).length=c*size:=by
 rcases h.shape with ⟨_,h0,_⟩|⟨g,cur,rfl,h1,h2,h3,h4,h5,h6⟩
 ·omega
 ·refine ⟨g,cur.toList.drop (n*size),rfl,h1, ?_,h3,h4, ?_⟩
  ·unfold Own
   rw [<- h6,List.take_append_drop]
   exact h2
  ·rw [<- h6,List.take_append_drop];exact h5
section
variable {w w':World} {base:Nat} {NA:OA} {nc:Nat} {ns:List Zac} {AA:OA} {ac:Nat} {as_:List Zab}
theorem Zue {cs:List Value} {m i:Nat} {v0 v1 v2:Value} (h:i≠m):((((cs.set (m*4) v0).set (m*4+1) v1).set (m*4+2) v2).drop (i*4)).take 4=(cs.drop (i*4)).take 4:=by
 refine List.ext_getElem? λj=>?_
 rcases Nat.lt_or_ge j 4 with hj|hj
 ·rw [List.getElem?_take_of_lt hj,List.getElem?_take_of_lt hj,List.getElem?_drop,List.getElem?_drop,List.getElem?_set_ne qo,List.getElem?_set_ne qo,List.getElem?_set_ne qo]
 ·rw [List.getElem?_eq_none (by rw [List.length_take];omega),List.getElem?_eq_none (by rw [List.length_take];omega)]
theorem Zwv {cs:List Value} {m n:Nat} {v0 v1 v2:Value} {A:OA} {l c:Nat} (hl:cs.length=n*4) (hm:m<n) (h3:cs[m*4+3]? = some (.slice A l c)):((((cs.set (m*4) v0).set (m*4+1) v1).set (m*4+2) v2).drop (m*4)).take 4=[v0,v1,v2,.slice A l c]:=by
 refine List.ext_getElem? λj=>?_
 have hb:m*4+3<cs.length:=by rw [hl];omega
 rcases j with _|_|_|_|j
 ·rw [List.getElem?_take_of_lt qo,List.getElem?_drop]
  show (((cs.set (m*4) v0).set (m*4+1) v1).set (m*4+2) v2)[m*4]? = _
  rw [List.getElem?_set_ne qo,List.getElem?_set_ne qo,List.getElem?_set_self qo];rfl
 ·rw [List.getElem?_take_of_lt qo,List.getElem?_drop,List.getElem?_set_ne qo,List.getElem?_set_self (by rw [List.length_set];omega)];rfl
 ·rw [List.getElem?_take_of_lt qo,List.getElem?_drop,List.getElem?_set_self (by simp only [List.length_set];omega)];rfl
 ·rw [List.getElem?_take_of_lt qo,List.getElem?_drop,List.getElem?_set_ne qo,List.getElem?_set_ne qo,List.getElem?_set_ne qo,h3];rfl
 ·rw [List.getElem?_eq_none (by rw [List.length_take];omega),List.getElem?_eq_none qs]
theorem Zcb.open_ (h:Zcb w base NA nc ns AA ac as_) {m:Nat} (hm:m<ns.length):∃ (g:Nat) (cs ds:List Value) (A:OA) (c:Nat),NA=some ⟨g,0,none⟩/\base<=g/\Own w g 155 (cs++ds)/\cs.length=ns.length*4/\ns.length<=nc/\nc<=maxLen /\
  (cs.drop (m*4)).take 4=[.int .i64 ns[m].1,str ns[m].2.1,.int .i64 ns[m].2.2.1,.slice A ns[m].2.2.2.length c]/\Zdb w 1 A ns[m].2.2.2.length c 3 (ints ns[m].2.2.2)/\(∀ y,y∈gOf A->y≠g/\base<=y) /\
  (∀ (w':World) (k k2:Int) (t:List UInt8) (xs:List Int),Own w' g 155 ((((cs.set (m*4) (.int .i64 k)).set (m*4+1) (str t)).set (m*4+2) (.int .i64 k2))++ds)->Zdb w' 1 A xs.length c 3 (ints xs)->xs.length=ns[m].2.2.2.length->Only w.heap.size (g::gOf A) w w'->Zcb w' base NA nc (ns.set m (k,t,k2,xs)) AA ac as_):=by
 obtain ⟨h1,⟨cs,hg,hn,hp⟩,h3,h4,h5⟩:=h
 have hlen:=hg.len
 obtain ⟨g,ds,hNA,hbg,ho,hcap,hmax,hdl⟩:=hg.open_ qo
 subst hNA
 obtain ⟨A,c,hcs,hr,ha⟩:=hn m hm
 have hAg:∀ y,y∈gOf A->y≠g/\base<=y:=λy hy=>by
  have:=ha y hy
  simp only [List.mem_append,List.mem_range,gOf,List.mem_cons,List.not_mem_nil,or_false,not_or] at this
  exact ⟨this.1.1,qo⟩
 have hA3:cs[m*4+3]? = some (.slice A ns[m].2.2.2.length c):=by
  have:((cs.drop (m*4)).take 4)[3]? = some (.slice A ns[m].2.2.2.length c):=by rw [hcs];rfl
  rwa [List.getElem?_take_of_lt qo,List.getElem?_drop] at this
 refine ⟨g,cs,ds,A,c,rfl,hbg,ho,hlen,hcap,hmax,hcs,hr,hAg,λw' k k2 t xs ho' hr' hxl hO=>?_⟩
 have hgl:g<w.heap.size:=ho.lt
 have hX:∀ y,y∈gOf AA->y∉g::gOf A:=λy hy q=>by
  rcases List.mem_cons.1 q with r|r
  ·exact h3 g (by simp [gOf]) (r ▸ hy)
  ·exact ha y r (by simp [hy])
 refine ⟨h1.only hO (λy hy=>⟨h1.lt y hy,hX y hy⟩),⟨((cs.set (m*4) (.int .i64 k)).set (m*4+1) (str t)).set (m*4+2) (.int .i64 k2), ?_,λi hi=>?_, ?_⟩,h3,by simpa using h4,h5⟩
 ·rw [List.length_set]
  exact Zaj.own_ ho' (by simpa using hlen) (by simpa using hdl) hbg hcap hmax
 ·rw [List.length_set] at hi
  by_cases him:i=m
  ·subst him
   rw [Zwv hlen hm hA3,List.getElem_set_self]
   refine ⟨A,c, ?_,hr',ha⟩
   simp only [hxl]
  ·rw [Zue him,List.getElem_set_ne qo]
   obtain ⟨A2,c2,hcs2,hr2,ha2⟩:=hn i hi
   refine ⟨A2,c2,hcs2,hr2.keep (λy hy hl=>hO.block y hl (λq=>?_)),ha2⟩
   have hB3:cs[i*4+3]? = some (.slice A2 ns[i].2.2.2.length c2):=by
    have:((cs.drop (i*4)).take 4)[3]? = some (.slice A2 ns[i].2.2.2.length c2):=by rw [hcs2];rfl
    rwa [List.getElem?_take_of_lt qo,List.getElem?_drop] at this
   rcases List.mem_cons.1 q with r|r
   ·exact ha2 y hy (by simp [gOf,r])
   ·rcases Nat.lt_or_ge i m with q2|q2
    ·exact hp i m A2 A _ _ _ _ q2 hm hB3 hA3 y hy r
    ·exact hp m i A A2 _ _ _ _ qo hi hA3 hB3 y r hy
 ·rw [List.length_set]
  intro i j A1 B1 l1 m1 c1 d1 hij hj e1 e2
  rw [List.getElem?_set_ne qo,List.getElem?_set_ne qo,List.getElem?_set_ne qo] at e1 e2
  exact hp i j A1 B1 l1 m1 c1 d1 hij hj e1 e2
end
section
variable {w w':World} {base:Nat} {NA:OA} {nc:Nat} {ns:List Zac} {AA:OA} {ac:Nat} {as_:List Zab}
end
def nodeFP (lo:Nat) (w:World) (ys:List Value) (x:Zac):Prop:=∃ A c,ys=[.int .i64 x.1,str x.2.1,.int .i64 x.2.2.1,.slice A x.2.2.2.length c]/\RS w 1 A x.2.2.2.length c (ints x.2.2.2)/\lowA lo A
def nodeF:Elem Zac where
 sz:=4
 P:=nodeFP
 len:=by rintro lo w ys x ⟨A,c,rfl,_⟩;rfl
 one:=by rintro lo w ys x ⟨A,c,rfl,_⟩;rfl
 keep:=by rintro lo w w' ys x ⟨A,c,rfl,h2,h3⟩ hu;exact ⟨A,c,rfl,h2.up h3 hu,h3⟩
 mono:=by rintro lo lo' w ys x ⟨A,c,rfl,h2,h3⟩ hl;exact ⟨A,c,rfl,h2,λy hy=>Nat.le_trans hl (h3 y hy)⟩
def assFP (lo:Nat) (w:World) (ys:List Value) (x:Zab):Prop:=ys=[str x.1,.int .i64 x.2]
def assF:Elem Zab where
 sz:=2
 P:=assFP
 len:=by rintro lo w ys x rfl;rfl
 one:=by rintro lo w ys x rfl;rfl
 keep:=by rintro lo w w' ys x h hu;exact h
 mono:=by rintro lo lo' w ys x h hl;exact h
theorem Zwo {l:List Zab} {i:Nat} (hi:i<l.length):((Zjb l).drop (i*2)).take 2=[str l[i].1,.int .i64 l[i].2]:=by
 refine List.ext_getElem? λj=>?_
 obtain ⟨h0,h1⟩:=Zq5 hi
 rcases j with _|_|j
 ·rw [List.getElem?_take_of_lt qo,List.getElem?_drop];simpa using h0
 ·rw [List.getElem?_take_of_lt qo,List.getElem?_drop];simpa using h1
 ·rw [List.getElem?_eq_none (by rw [List.length_take];omega),List.getElem?_eq_none qs]
theorem Zcb.rows {w:World} {base:Nat} {NA:OA} {nc:Nat} {ns:List Zac} {AA:OA} {ac:Nat} {as_:List Zab} (h:Zcb w base NA nc ns AA ac as_):Ziq nodeF 0 w (.slice NA ns.length nc) ns/\Ziq assF 0 w (.slice AA as_.length ac) as_:=by
 obtain ⟨h1,⟨cs,hg,hn,hp⟩,h3,h4,h5⟩:=h
 refine ⟨⟨NA,nc,cs,rfl,hg.rs,λ_ _=>Nat.zero_le _,λi hi=>?_⟩,⟨AA,ac,Zjb as_,rfl,h1.rs,λ_ _=>Nat.zero_le _,λi hi=>Zwo hi⟩⟩
 obtain ⟨A,c,e,hr,_⟩:=hn i hi
 exact ⟨A,c,e,hr.rs,λ_ _=>Nat.zero_le _⟩
theorem Zuf {cs:List Value} {m:Nat} {a b c d:Value} (h:(cs.drop (m*4)).take 4=[a,b,c,d]):cs[m*4]? = some a/\cs[m*4+1]? = some b/\cs[m*4+2]? = some c/\cs[m*4+3]? = some d:=by
 have e:∀ j,j<4->cs[m*4+j]? = [a,b,c,d][j]? := λj hj=>by rw [<- h,List.getElem?_take_of_lt hj,List.getElem?_drop]
 exact ⟨e 0 qo,e 1 qo,e 2 qo,e 3 qo⟩
theorem Zwf {cs:List Value} {i:Nat} {a:Value} (h:cs[i]? = some a):i<cs.length:=by
 rcases Nat.lt_or_ge i cs.length with q|q
 ·exact q
 ·rw [List.getElem?_eq_none q] at h;cases h
def LowN (w:World) (NA:OA) (n hi:Nat):Prop:=(∀ y,y∈gOf NA->y<hi)/\∀ (j:Nat),j<n->∀ (A:OA) (l c g:Nat),NA=some ⟨g,0,none⟩->w.cell? ⟨g,j*4+3,none⟩=some (.slice A l c)->∀ y,y∈gOf A->y<hi
theorem Zcb.lowN {w:World} {base:Nat} {NA:OA} {nc:Nat} {ns:List Zac} {AA:OA} {ac:Nat} {as_:List Zab} (h:Zcb w base NA nc ns AA ac as_):LowN w NA ns.length w.heap.size:=by
 refine ⟨λy hy=>by obtain ⟨_,⟨cs,hg,_⟩,_⟩:=h;exact hg.lt y hy,λj hj A l c g hg hc y hy=>?_⟩
 obtain ⟨g',cs,ds,A',c',hNA,hbg,ho,hlen,hnc,hmax,hcs,hr,hAg,hch⟩:=h.open_ hj
 rw [hNA] at hg
 injection hg with hg
 injection hg with hg
 subst hg
 obtain ⟨q0,q1,q2,q3⟩:=Zuf hcs
 have l3:=Zwf q3
 rw [ho.cell,List.getElem?_append_left qo,q3] at hc
 injection hc with hc
 injection hc with e1 e2 e3
 subst e1
 exact hr.lt y hy
theorem LowN.step {w w':World} {NA:OA} {n hi:Nat} (h:LowN w NA n hi) (hb:Bw w w') (hi2:hi<=w.heap.size):LowN w' NA n hi :=
 ⟨h.1,λj hj A l c g hg hc y hy=>h.2 j hj A l c g hg (by
  have hgl:g<w.heap.size:=by have:=h.1 g (by rw [hg];simp [gOf]);omega
  rw [hb.cell (p:=⟨g,j*4+3,none⟩) hgl] at hc;exact hc) y hy⟩
theorem Zcb.keep {w w':World} {base:Nat} {NA:OA} {nc:Nat} {ns:List Zac} {AA:OA} {ac:Nat} {as_:List Zab} (h:Zcb w base NA nc ns AA ac as_) (hk:∀ x,base<=x->x<w.heap.size->w'.heap[x]? = w.heap[x]?):Zcb w' base NA nc ns AA ac as_:=by
 obtain ⟨h1,⟨cs,hg,hn,hp⟩,h3,h4,h5⟩:=h
 exact ⟨h1.keep (λx hx=>hk x (h1.ge x hx) (h1.lt x hx)),⟨cs,hg.keep (λx hx=>hk x (hg.ge x hx) (hg.lt x hx)),hn.keep (λy hy hl=>hk y (by simp only [List.mem_append,List.mem_range,not_or] at hy;omega) hl),hp⟩,h3,h4,h5⟩
theorem Zcb.keepHi {w w':World} {base hi:Nat} {NA:OA} {nc:Nat} {ns:List Zac} {AA:OA} {ac:Nat} {as_:List Zab} (h:Zcb w base NA nc ns AA ac as_) (hlow:LowN w NA ns.length hi) (hA:∀ y,y∈gOf AA->y<hi) (hk:∀ x,base<=x->x<hi->x<w.heap.size->w'.heap[x]? = w.heap[x]?):Zcb w' base NA nc ns AA ac as_/\LowN w' NA ns.length hi:=by
 obtain ⟨h1,⟨cs,hg,hn,hp⟩,h3,h4,h5⟩:=h
 have hN:∀ x,x∈gOf NA->w'.heap[x]? = w.heap[x]? := λx hx=>hk x (hg.ge x hx) (hlow.1 x hx) (hg.lt x hx)
 have hcell:∀ g,NA=some ⟨g,0,none⟩->∀ o,w'.cell? ⟨g,o,none⟩=w.cell? ⟨g,o,none⟩:=λg hgN o=>World.cell?_of_block (hN g (by rw [hgN];simp [gOf]))
 refine ⟨⟨h1.keep (λx hx=>hk x (h1.ge x hx) (hA x hx) (h1.lt x hx)),⟨cs,hg.keep hN,λi hi'=>?_,hp⟩,h3,h4,h5⟩,hlow.1,λj hj A l c g hgN hc y hy=>hlow.2 j hj A l c g hgN (by rw [<- hcell g hgN];exact hc) y hy⟩
 obtain ⟨A,c,e,hr,ha⟩:=hn i hi'
 have hpos:0<ns.length:=Nat.zero_lt_of_lt hi'
 refine ⟨A,c,e,hr.keep (λy hy hl=>?_),ha⟩
 have hyb:base<=y:=by
  have:=ha y hy
  simp only [List.mem_append,List.mem_range,not_or] at this
  omega
 refine hk y hyb ?_ hl
 obtain ⟨g,ds,hgN,hgb,ho,hnc,hmax,hlen⟩:=hg.open_ hpos
 have hcl:=hg.len
 have h3':cs[i*4+3]? = some (.slice A ns[i].2.2.2.length c):=by
  have:((cs.drop (i*4)).take 4)[3]? = some (.slice A ns[i].2.2.2.length c):=by rw [e];rfl
  rw [List.getElem?_take_of_lt qo,List.getElem?_drop] at this
  exact this
 have hlt:=Zwf h3'
 exact hlow.2 i hi' A _ c g hgN (by rw [ho.cell,List.getElem?_append_left hlt,h3']) y hy
theorem LowN.mono {w:World} {NA:OA} {n hi hi':Nat} (h:LowN w NA n hi) (hh:hi<=hi'):LowN w NA n hi':=⟨λy hy=>Nat.lt_of_lt_of_le (h.1 y hy) hh,λj hj A l c g a b y hy=>Nat.lt_of_lt_of_le (h.2 j hj A l c g a b y hy) hh⟩
structure ProgAtM (w:World) (base:Nat) (cs:List Value) (i:Nat) (p:Zag) (lo hi:Nat):Prop where
 ex:∃ (NA:OA) (nc:Nat) (AA:OA) (ac:Nat),cs[i*2]? = some (.slice NA p.1.length nc)/\cs[i*2+1]? = some (.slice AA p.2.length ac)/\Zcb w lo NA nc p.1 AA ac p.2/\LowN w NA p.1.length hi/\(∀ y,y∈gOf AA->y<hi)
 b0:base<=lo
 b1:lo<=hi
 b2:hi<=w.heap.size
def Zci (w:World) (base:Nat) (X:List Nat) (P:OA) (pc:Nat) (ps:List Zag):Prop :=
 ∃ (cs:List Value) (lo hi:Nat->Nat),Zaj w base 62 2 P ps.length pc cs/\(∀ (i:Nat) (h:i<ps.length),ProgAtM w base cs i ps[i] (lo i) (hi i))/\(∀ i j,i<j->j<ps.length->hi i<=lo j)/\(∀ x,x∈gOf P++X->∀ i,i<ps.length->x<lo i∨hi i<=x)/\(∀ x,x∈X->x∉gOf P)
theorem ProgAtM.keep {w w':World} {base:Nat} {cs:List Value} {i:Nat} {p:Zag} {lo hi:Nat} (h:ProgAtM w base cs i p lo hi) (hz:w.heap.size<=w'.heap.size) (hk:∀ x,lo<=x->x<hi->w'.heap[x]? = w.heap[x]?):ProgAtM w' base cs i p lo hi:=by
 obtain ⟨⟨NA,nc,AA,ac,h1,h2,h3,h4,h5⟩,b0,b1,b2⟩:=h
 obtain ⟨k1,k2⟩:=h3.keepHi h4 h5 (λx a b _=>hk x a b)
 exact ⟨⟨NA,nc,AA,ac,h1,h2,k1,k2,h5⟩,b0,b1,Nat.le_trans b2 hz⟩
theorem Zci.keep {w w':World} {base:Nat} {X:List Nat} {P:OA} {pc:Nat} {ps:List Zag} (h:Zci w base X P pc ps) (hz:w.heap.size<=w'.heap.size) (hk:∀ x,base<=x->x<w.heap.size->x∉X->w'.heap[x]? = w.heap[x]?):Zci w' base X P pc ps:=by
 obtain ⟨cs,lo,hi,h1,h2,h3,h4,h5⟩:=h
 refine ⟨cs,lo,hi,h1.keep (λx hx=>hk x (h1.ge x hx) (h1.lt x hx) (λq=>h5 x q hx)),λi hi'=>(h2 i hi').keep hz (λx a b=>?_),h3,h4,h5⟩
 have q:=h2 i hi'
 have b0:=q.b0
 have b2:=q.b2
 refine hk x qo qo (λhX=>?_)
 have:=h4 x (by simp [hX]) i hi'
 omega
theorem Zci.step {w w':World} {base:Nat} {X:List Nat} {P:OA} {pc:Nat} {ps:List Zag} (hb:Bw w w') (h:Zci w base X P pc ps):Zci w' base X P pc ps:=h.keep hb.size (λx _ hl _=>hb.block x hl)
theorem Zci.nil (w:World) (base:Nat) (X:List Nat):Zci w base X none 0 []:=⟨[],λ_=>0,λ_=>0,Zaj.nil _ _ _ _,(λi h=>absurd h qs),(λi j _ h=>absurd h qs),(λx _ i h=>absurd h qs),(λx _ h=>by cases h)⟩
theorem Zci.setX {w w':World} {base:Nat} {X Y:List Nat} {P:OA} {pc:Nat} {ps:List Zag} (h:Zci w base X P pc ps) (hb:Bw w w') (hY:∀ y,y∈Y->y∈X∨w.heap.size<=y):Zci w' base Y P pc ps:=by
 have hs:=h.step hb
 obtain ⟨cs,lo,hi,h1,h2,h3,h4,h5⟩:=h
 obtain ⟨cs',lo',hi',k1,k2,k3,k4,k5⟩:=hs
 refine ⟨cs,lo,hi,h1.step hb,λi hi'=>(h2 i hi').keep hb.size (λx a b=>hb.block x (by have:=(h2 i hi').b2;omega)),h3,λx hx i hi'=>?_,λx hx hP=>?_⟩
 ·rcases List.mem_append.1 hx with hx|hx
  ·exact h4 x (by simp [hx]) i hi'
  ·rcases hY x hx with q|q
   ·exact h4 x (by simp [q]) i hi'
   ·have:=(h2 i hi').b2;omega
 ·rcases hY x hx with q|q
  ·exact h5 x q hP
  ·have:=h1.lt x hP;omega
theorem Zci.snoc {u v w w':World} {base:Nat} {X:List Nat} {P P':OA} {pc c':Nat} {ps:List Zag} {p:Zag} {NA AA:OA} {nc ac:Nat} {cs:List Value} {lo hi:Nat->Nat}
  (h1:Zaj u base 62 2 P ps.length pc cs) (h2:∀ (i:Nat) (h:i<ps.length),ProgAtM u base cs i ps[i] (lo i) (hi i)) (h3:∀ i j,i<j->j<ps.length->hi i<=lo j) (h4:∀ x,x∈gOf P++X->∀ i,i<ps.length->x<lo i∨hi i<=x) (h5:∀ x,x∈X->x∉gOf P)
  (hX:∀ x,x∈X->x<u.heap.size) (hbu:base<=u.heap.size) (hb:Bw u v) (hpm:Zcb v u.heap.size NA nc p.1 AA ac p.2) (hvw:Bw v w)
  (ap:Za8 w base 62 2 P ps.length (cs++[.slice NA p.1.length nc,.slice AA p.2.length ac]) P' (ps.length+1) c' w'):Zci w' base X P' c' (ps++[p]):=by
 have huv:=hb.size
 have hvz:=hvw.size
 have hsz:=ap.2.2.2.1
 have hlow:=hpm.lowN
 have hAA:∀ y,y∈gOf AA->y<v.heap.size:=λy hy=>hpm.1.lt y hy
 have hcl:cs.length=ps.length*2:=h1.len
 have hblk:∀ y,y<w.heap.size->y∉gOf P->w'.heap[y]? = w.heap[y]? := λy hy hN=>ap.2.2.1.block y hy (by cases P<;>simp_all [gOf])
 have hP':∀ y,y∈gOf P'->y∈gOf P∨y=w.heap.size:=λy hy=>by
  rcases ap.2.2.2.2 with e|e
  ·rw [e] at hy;exact .inl hy
  ·rw [e] at hy;right;simpa using hy
 have hPu:∀ y,y∈gOf P->y<u.heap.size:=h1.lt
 refine ⟨cs++[.slice NA p.1.length nc,.slice AA p.2.length ac],λi=>if i=ps.length then u.heap.size else lo i,λi=>if i=ps.length then v.heap.size else hi i,by rw [List.length_append];exact ap.1,λi hi'=>?_,λi j hij hj=>?_,λx hx i hi'=>?_,λx hx hPx=>?_⟩
 ·rcases Nat.lt_or_ge i ps.length with hlt|hge
  ·have hne:¬ i=ps.length:=by omega
   (try dsimp only)
   rw [if_neg hne,if_neg hne,List.getElem_append_left hlt]
   have q:=h2 i hlt
   have k:=q.keep (w':=w') qo (λx a b=>by
    have:=q.b2
    rw [hblk x qo (λhN=>by have:=h4 x (by simp [hN]) i hlt;omega),hvw.block x qo,hb.block x qo])
   obtain ⟨⟨NA',nc',AA',ac',e1,e2,e3⟩,b0,b1,b2⟩:=k
   exact ⟨⟨NA',nc',AA',ac',by rw [List.getElem?_append_left qo];exact e1,by rw [List.getElem?_append_left qo];exact e2,e3⟩,b0,b1,b2⟩
  ·obtain rfl:i=ps.length:=by simp at hi';omega
   (try dsimp only)
   rw [if_pos rfl,if_pos rfl,List.getElem_concat_length rfl]
   obtain ⟨k1,k2⟩:=hpm.keepHi hlow hAA (w':=w') (λx a b _=>by rw [hblk x qo (λhN=>by have:=hPu x hN;omega),hvw.block x b])
   refine ⟨⟨NA,nc,AA,ac, ?_, ?_,k1,k2,hAA⟩,hbu,huv,qo⟩
   ·rw [List.getElem?_append_right qo,hcl,Nat.sub_self];rfl
   ·rw [List.getElem?_append_right qo,hcl,show ps.length*2+1-ps.length*2=1 by omega];rfl
 ·simp only [List.length_append,List.length_cons,List.length_nil] at hj
  have hi0:¬ i=ps.length:=qo
  (try dsimp only)
  rw [if_neg hi0]
  by_cases hje:j=ps.length
  ·rw [if_pos hje];exact (h2 i qo).b2
  ·rw [if_neg hje];exact h3 i j hij qo
 ·simp only [List.length_append,List.length_cons,List.length_nil] at hi'
  have hx':(x∈gOf P++X)∨x=w.heap.size:=by
   rcases List.mem_append.1 hx with hx|hx
   ·rcases hP' x hx with q|q
    ·exact .inl (by simp [q])
    ·exact .inr q
   ·exact .inl (by simp [hx])
  have hxu:(x∈gOf P++X)->x<u.heap.size:=λq=>by
   rcases List.mem_append.1 q with q|q
   ·exact hPu x q
   ·exact hX x q
  (try dsimp only)
  by_cases hie:i=ps.length
  ·rw [if_pos hie,if_pos hie]
   rcases hx' with q|q
   ·exact .inl (hxu q)
   ·right;omega
  ·rw [if_neg hie,if_neg hie]
   rcases hx' with q|q
   ·exact h4 x q i qo
   ·right;have:=(h2 i qo).b2;omega
 ·rcases hP' x hPx with q|q
  ·exact h5 x hx q
  ·have:=hX x hx;omega
theorem Zci.rowL {w:World} {base:Nat} {X:List Nat} {P:OA} {pc:Nat} {ps:List Zag} (h:Zci w base X P pc ps) (hB:∀ p∈ps,Zws p):Ziq progE 0 w (.slice P ps.length pc) ps:=by
 obtain ⟨cs,lo,hi,h1,h2,h3,h4,h5⟩:=h
 refine ⟨P,pc,cs,rfl,h1.rs,λ_ _=>Nat.zero_le _,λi hi'=>?_⟩
 obtain ⟨NA,nc,AA,ac,e1,e2,hpm,_⟩:=(h2 i hi').ex
 have hb:=hB _ (List.getElem_mem hi')
 have hlen:cs.length=ps.length*2:=h1.len
 have hle:(i+1)*2<=ps.length*2:=Nat.mul_le_mul_right _ hi'
 have e:(cs.drop (i*2)).take 2=[.slice NA ps[i].1.length nc,.slice AA ps[i].2.length ac]:=by
  apply List.ext_getElem?
  intro j
  rcases Nat.lt_or_ge j 2 with hj|hj
  ·rw [List.getElem?_take_of_lt hj,List.getElem?_drop]
   rcases (show j=0∨j=1 by omega) with rfl|rfl
   ·exact e1
   ·exact e2
  ·rw [List.getElem?_eq_none (by rw [List.length_take];omega),List.getElem?_eq_none (by simp;omega)]
 show progP 0 w ((cs.drop (i*2)).take 2) ps[i]
 rw [e]
 obtain ⟨q1,⟨ds,q2,q3,q4⟩,q5,q6,q7⟩:=hpm
 refine ⟨_,_,rfl,⟨NA,nc,ds,rfl,q2.rs,λ_ _=>Nat.zero_le _,λj hj=>?_⟩,⟨AA,ac,Zjb ps[i].2,rfl,q1.rs,λ_ _=>Nat.zero_le _,λj hj=>?_⟩⟩
 ·obtain ⟨A,c,e',hr,_⟩:=q3 j hj
  exact ⟨A,c,e',by have:=(hb.1.2 _ (List.getElem_mem hj)).1;unfold maxLen;omega,hr.rs,λ_ _=>Nat.zero_le _⟩
 ·refine ⟨?_,by have:=hb.2.2 _ (List.getElem_mem hj);unfold assB at this;unfold maxLen;omega⟩
  obtain ⟨r0,r1⟩:=Zq5 hj
  have hl2:=rAss_len ps[i].2
  have hle2:(j+1)*2<=ps[i].2.length*2:=Nat.mul_le_mul_right _ hj
  apply List.ext_getElem?
  intro m
  rcases Nat.lt_or_ge m 2 with hm|hm
  ·show (((Zjb ps[i].2).drop (j*2)).take 2)[m]? = _
   rw [List.getElem?_take_of_lt hm,List.getElem?_drop]
   rcases (show m=0∨m=1 by omega) with rfl|rfl
   ·exact r0
   ·exact r1
  ·rw [List.getElem?_eq_none (by show (List.take 2 _).length<=m;rw [List.length_take];omega),List.getElem?_eq_none (by simp;omega)]
abbrev vV (v:Zi8):Value:=Zbi v.1 v.2.1 v.2.2
def outV (r:Option Zi8):Value:=.tuple #[vV (r.getD zV),.bool r.isSome]
theorem parV_of {l:List UInt8} {x y z:Int} (h:Zbm l=some [x,y,z]) (hv:validV x y z=true):Zg5 l=some (x,y,z):=by unfold Zg5;rw [h];simp only [hv,if_true]
theorem parV_bad {l:List UInt8} {x y z:Int} (h:Zbm l=some [x,y,z]) (hv:validV x y z=false):Zg5 l=none:=by unfold Zg5;rw [h];simp [hv]
theorem Zwx {l:List UInt8} (h:Zbm l=none):Zg5 l=none:=by unfold Zg5;rw [h]
theorem parV_len {l:List UInt8} {ls:List Int} (h:Zbm l=some ls) (hl:ls.length≠3):Zg5 l=none:=by
 unfold Zg5;rw [h]
 match ls,hl with
 | [],_=>rfl
 | [_],_=>rfl
 | [_,_],_=>rfl
 | [a,b,c],hl=>exact absurd rfl hl
 | _::_::_::_::_,_=>rfl
theorem three_of {ls:List Int} (h:ls.length=3):∃ x y z,ls=[x,y,z]:=by
 match ls,h with
 | [a,b,c],_=>exact ⟨a,b,c,rfl⟩
theorem Zs3 {l:List UInt8} {ls:List Int} (h:Zbm l=some ls):l≠[]:=by
 intro e;subst e;rw [Zuh] at h;cases h
theorem str_ne {l:List UInt8} (h:l≠[]):(({ data:=l.toArray }:ByteArray)=ByteArray.empty)=False:=by
 refine eq_false (λhc=>?_)
 have h3:=congrArg (λb:ByteArray=>b.data.toList) hc
 simp at h3
 exact h h3
theorem Zvp (l:List UInt8) (w:World) (hlim:l.length<=1048576) (he:Env w) :
  CR 197 #[str l] w ((outV (Zg5 l))):=by
 have HPI:=qh (∀ wx,Bw w wx->CL 132 #[str l] wx (OutPL (Zbm l) wx)) (λwx hb=>Zhy l wx hlim (he.step hb))
 cases hp:Zbm l with
 | none =>
  have HPV:=hdQ (Zwx hp)
  rw [hp] at HPI
  clear hp
  go_enter Tryz.func197,Tryz.ntmps197
  go_wp2_with fail
  refine (HPI.out _ bll).mono ?_
  rintro e w1 ⟨A,c,rfl,ho,hge,hb1⟩
  have hz1:=hb1.size
  (try simp at hz1)
  have HX1:=qh (Own w1 w.heap.size 40 [.int .i64 0,.int .i64 0,.int .i64 0]) (Own.step hb1 (Own.new w _ #[_,_,_]))
  have HB1:=bh w hb1
  have x0:=HX1.out.cell 0
  have x1:=HX1.out.cell 1
  have x2:=HX1.out.cell 2
  have xf:=HX1.out.frozen
  (try dsimp only [List.getElem?_cons_succ,List.getElem?_cons_zero] at x0 x1 x2)
  clear ho hge hb1
  go_wp2_with fail
  exact bodyPost_ret (v:=.tuple #[.agg #[.int .i64 0,.int .i64 0,.int .i64 0],.bool false]) (by simp [results,Tryz.results197,go_sem, *]) rfl ⟨by first|(rw [HPV.out];done)|(rw [HPV.out];rfl),bll⟩
 | some ls =>
  rw [hp] at HPI
  by_cases h3:ls.length=3
  ·obtain ⟨x,y,z,rfl⟩:=three_of h3
   clear h3
   have HT:=hdQ (Zq7 hp qs)
   have HNE:=hdQ (str_ne (Zs3 hp))
   cases hv:validV x y z with
   | true =>
    have HPV:=hdQ (parV_of hp hv)
    have HFV:=qh (∀ wx,CR 161 #[Zbi x y z] wx (.bool true)) (λwx=>by have:=Ze9 x y z wx;rw [hv] at this;exact this)
    clear hp hv
    go_enter Tryz.func197,Tryz.ntmps197
    go_wp2_with fail
    refine (HPI.out _ bll).mono ?_
    rintro e w1 ⟨A,c,rfl,ho,hge,hb1⟩
    (try simp only [Option.getD_some] at ho)
    obtain ⟨hlc,hcm,hop⟩:=ho.rs.open_
    unfold maxLen at hcm
    obtain ⟨b,o,rfl,hbl,hcell⟩:=hop qs
    have c0:w1.cell? ⟨b,o,none⟩=some (.int .i64 x):=by have:=hcell 0 qs;simpa using this
    have c1:w1.cell? ⟨b,o+1,none⟩=some (.int .i64 y):=by have:=hcell 1 qs;simpa using this
    have c2:w1.cell? ⟨b,o+2,none⟩=some (.int .i64 z):=by have:=hcell 2 qs;simpa using this
    have hz1:=hb1.size
    (try simp at hz1)
    have HX1:=qh (Own w1 w.heap.size 40 [.int .i64 0,.int .i64 0,.int .i64 0]) (Own.step hb1 (Own.new w _ #[_,_,_]))
    have HB1:=bh w hb1
    have nb:¬ b=w1.heap.size:=qo
    clear ho hge hb1 hop hcell hlc
    go_wp2_with fail
    go_region_held3 (λw'=>w'.cell? ⟨b,o,none⟩=some (.int .i64 x)/\w'.cell? ⟨b,o+1,none⟩=some (.int .i64 y)/\w'.cell? ⟨b,o+2,none⟩=some (.int .i64 z))
     (first|((try dsimp only);refine ⟨?_, ?_, ?_⟩<;>(go_simp;done))|go_keep)
     (fail)
    all_goals
     go_wp2_with fail
     refine (HFV.out _).mono ?_
     rintro e w2 ⟨rfl,hb2⟩
     have hz2:=hb2.size
     (try simp at hz2)
     have HB2:=bh w hb2
     have HX2:=qh (Own w2 w.heap.size 40 [.int .i64 0,.int .i64 0,.int .i64 0]) (Own.step hb2 (owx HX1.out))
     have y0:=λo=>hb2.cell (p:=⟨w1.heap.size,o,none⟩) omm
     have x0:=HX2.out.cell 0
     have x1:=HX2.out.cell 1
     have x2:=HX2.out.cell 2
     have xf:=HX2.out.frozen
     have nx:¬ w.heap.size=w1.heap.size:=qo
     have lx:w1.heap.size<w2.heap.size:=qo
     (try dsimp only [List.getElem?_cons_succ,List.getElem?_cons_zero] at x0 x1 x2)
     clear hb2
     go_wp2_with fail
     exact bodyPost_ret (v:=.tuple #[Zbi x y z,.bool true]) (by simp [results,Tryz.results197,go_sem, *]) rfl ⟨by first|(rw [HPV.out];done)|(rw [HPV.out];rfl),bll⟩
   | false =>
    have HPV:=hdQ (parV_bad hp hv)
    have HFV:=qh (∀ wx,CR 161 #[Zbi x y z] wx (.bool false)) (λwx=>by have:=Ze9 x y z wx;rw [hv] at this;exact this)
    clear hp hv
    go_enter Tryz.func197,Tryz.ntmps197
    go_wp2_with fail
    refine (HPI.out _ bll).mono ?_
    rintro e w1 ⟨A,c,rfl,ho,hge,hb1⟩
    (try simp only [Option.getD_some] at ho)
    obtain ⟨hlc,hcm,hop⟩:=ho.rs.open_
    unfold maxLen at hcm
    obtain ⟨b,o,rfl,hbl,hcell⟩:=hop qs
    have c0:w1.cell? ⟨b,o,none⟩=some (.int .i64 x):=by have:=hcell 0 qs;simpa using this
    have c1:w1.cell? ⟨b,o+1,none⟩=some (.int .i64 y):=by have:=hcell 1 qs;simpa using this
    have c2:w1.cell? ⟨b,o+2,none⟩=some (.int .i64 z):=by have:=hcell 2 qs;simpa using this
    have hz1:=hb1.size
    (try simp at hz1)
    have HX1:=qh (Own w1 w.heap.size 40 [.int .i64 0,.int .i64 0,.int .i64 0]) (Own.step hb1 (Own.new w _ #[_,_,_]))
    have HB1:=bh w hb1
    have nb:¬ b=w1.heap.size:=qo
    clear ho hge hb1 hop hcell hlc
    go_wp2_with fail
    go_region_held3 (λw'=>w'.cell? ⟨b,o,none⟩=some (.int .i64 x)/\w'.cell? ⟨b,o+1,none⟩=some (.int .i64 y)/\w'.cell? ⟨b,o+2,none⟩=some (.int .i64 z))
     (first|((try dsimp only);refine ⟨?_, ?_, ?_⟩<;>(go_simp;done))|go_keep)
     (fail)
    all_goals
     go_wp2_with fail
     refine (HFV.out _).mono ?_
     rintro e w2 ⟨rfl,hb2⟩
     have hz2:=hb2.size
     (try simp at hz2)
     have HB2:=bh w hb2
     have HX2:=qh (Own w2 w.heap.size 40 [.int .i64 0,.int .i64 0,.int .i64 0]) (Own.step hb2 (owx HX1.out))
     have y0:=λo=>hb2.cell (p:=⟨w1.heap.size,o,none⟩) omm
     have x0:=HX2.out.cell 0
     have x1:=HX2.out.cell 1
     have x2:=HX2.out.cell 2
     have xf:=HX2.out.frozen
     have nx:¬ w.heap.size=w1.heap.size:=qo
     have lx:w1.heap.size<w2.heap.size:=qo
     (try dsimp only [List.getElem?_cons_succ,List.getElem?_cons_zero] at x0 x1 x2)
     clear hb2
     go_wp2_with fail
     exact bodyPost_ret (v:=.tuple #[.agg #[.int .i64 0,.int .i64 0,.int .i64 0],.bool false]) (by simp [results,Tryz.results197,go_sem, *]) rfl ⟨by first|(rw [HPV.out];done)|(rw [HPV.out];rfl),bll⟩
  ·have HPV:=hdQ (parV_len hp h3)
   have hne:((ls.length:Int) != 3)=true:=by simp;omega
   clear hp
   go_enter Tryz.func197,Tryz.ntmps197
   go_wp2_with fail
   refine (HPI.out _ bll).mono ?_
   rintro e w1 ⟨A,c,rfl,ho,hge,hb1⟩
   (try simp only [Option.getD_some] at ho)
   have hz1:=hb1.size
   (try simp at hz1)
   have HX1:=qh (Own w1 w.heap.size 40 [.int .i64 0,.int .i64 0,.int .i64 0]) (Own.step hb1 (Own.new w _ #[_,_,_]))
   have HB1:=bh w hb1
   have x0:=HX1.out.cell 0
   have x1:=HX1.out.cell 1
   have x2:=HX1.out.cell 2
   have xf:=HX1.out.frozen
   (try dsimp only [List.getElem?_cons_succ,List.getElem?_cons_zero] at x0 x1 x2)
   clear ho hge hb1
   go_wp2_with fail
   exact bodyPost_ret (v:=.tuple #[.agg #[.int .i64 0,.int .i64 0,.int .i64 0],.bool false]) (by simp [results,Tryz.results197,go_sem, *]) rfl ⟨by first|(rw [HPV.out];done)|(rw [HPV.out];rfl),bll⟩
def outPt (r:Option Zau):Value:=.tuple #[Zbv (r.getD zPt),.bool r.isSome]
def vTo (ws:List (List UInt8)) (k j:Nat):Zi8:=if j<k then vOf ws[j]? else zV
def ptTo (ws:List (List UInt8)) (k:Nat):Zau:=Zst (vTo ws k 0) (vTo ws k 1) (vTo ws k 2) (vTo ws k 3)
theorem Zne {ws:List (List UInt8)} (j:Nat):vTo ws ws.length j=vOf ws[j]? := by
 unfold vTo
 split
 ·rfl
 ·rename_i h
  rw [List.getElem?_eq_none qo];rfl
theorem ptTo_end (ws:List (List UInt8)):ptTo ws ws.length=Zua ws:=by unfold ptTo Zua;rw [Zne,Zne,Zne,Zne]
theorem Zcg {ws:List (List UInt8)} {k j:Nat} (h:j≠k):vTo ws (k+1) j=vTo ws k j:=by
 unfold vTo
 by_cases h1:j<k
 ·rw [if_pos h1,if_pos qo]
 ·rw [if_neg h1,if_neg qo]
theorem vTo_new {ws:List (List UInt8)} {k:Nat}:vTo ws (k+1) k=vOf ws[k]? := by unfold vTo;rw [if_pos qo]
def cPt (a b c d:Zi8):List Value:=[.int .i64 a.1,.int .i64 a.2.1,.int .i64 a.2.2,.int .i64 b.1,.int .i64 b.2.1,.int .i64 b.2.2,.int .i64 c.1,.int .i64 c.2.1,.int .i64 c.2.2,.int .i64 d.1,.int .i64 d.2.1,.int .i64 d.2.2]
abbrev z12L:List Value:=[.int .i64 0,.int .i64 0,.int .i64 0,.int .i64 0,.int .i64 0,.int .i64 0,.int .i64 0,.int .i64 0,.int .i64 0,.int .i64 0,.int .i64 0,.int .i64 0]
theorem four_of {ws:List (List UInt8)} (h:ws.length=4):∃ a b c d,ws=[a,b,c,d]:=by
 match ws,h with
 | [a,b,c,d],_=>exact ⟨a,b,c,d,rfl⟩
theorem Zwy {l:List UInt8} (h:(splitB 32 l).length≠4):parPt l=none:=by
 unfold parPt
 split
 ·rename_i hs;rw [hs] at h;exact absurd rfl h
 ·rfl
theorem Zwz {l:List UInt8} {k:Nat} (hl:(splitB 32 l).length=4) (hk:k<(splitB 32 l).length) (h:Zg5 (splitB 32 l)[k]=none):parPt l=none:=by
 cases hp:parPt l with
 | none=>rfl
 | some p =>
  exfalso
  unfold parPt at hp
  split at hp
  ·rename_i a b c d hs
   split at hp
   ·rename_i va vb vc vd ha hb hc hd
    have hk4:k<4:=qo
    have:∀ (ws:List (List UInt8)) (hw:ws=[a,b,c,d]) (hk:k<ws.length),Zg5 ws[k]≠none:=by
     intro ws hw hk
     subst hw
     rcases (show k=0∨k=1∨k=2∨k=3 by omega) with rfl|rfl|rfl|rfl<;>simp [ha,hb,hc,hd]
    exact this _ hs hk h
   ·cases hp
  ·cases hp
theorem Zuo {l:List UInt8} (hl:(splitB 32 l).length=4) (h:∀ k (hk:k<(splitB 32 l).length),Zg5 (splitB 32 l)[k]≠none):parPt l=some (Zua (splitB 32 l)):=by
 obtain ⟨a,b,c,d,hs⟩:=four_of hl
 have key:∀ (ws:List (List UInt8)) (hw:ws=[a,b,c,d]),(∀ k (hk:k<ws.length),Zg5 ws[k]≠none)->∃ va vb vc vd,Zg5 a=some va/\Zg5 b=some vb/\Zg5 c=some vc/\Zg5 d=some vd:=by
  intro ws hw hx
  subst hw
  have g:∀ o:Option Zi8,o≠none->∃ v,o=some v:=λo ho=>by cases o with|none=>exact absurd rfl ho|some v=>exact ⟨v,rfl⟩
  obtain ⟨va,ha⟩:=g _ (hx 0 qs)
  obtain ⟨vb,hb⟩:=g _ (hx 1 qs)
  obtain ⟨vc,hc⟩:=g _ (hx 2 qs)
  obtain ⟨vd,hd⟩:=g _ (hx 3 qs)
  exact ⟨va,vb,vc,vd,by simpa using ha,by simpa using hb,by simpa using hc,by simpa using hd⟩
 obtain ⟨va,vb,vc,vd,ha,hb,hc,hd⟩:=key _ hs h
 unfold parPt
 rw [hs]
 simp only [ha,hb,hc,hd]
 congr 1
 simp [Zua,vOf,ha,hb,hc,hd]
set_option maxHeartbeats 16000000 in
theorem Zjl (l:List UInt8) (w:World) (hlim:l.length<=1048576) (he:Env w) :
  CR 137 #[str l] w ((outPt (parPt l))):=by
 have HE:=hdQ he
 have HSP:=qh (∀ wx,CL 68 #[str l,.string ⟨#[32]⟩] wx (Zgq (splitB 32 l) wx)) (λwx=>Zfs 32 l wx hlim)
 have HM:=hdQ (λp (h:p∈splitB 32 l)=>Zgx h)
 have HBAD:=qh ((splitB 32 l).length=4->∀ k (hk:k<(splitB 32 l).length),Zg5 (splitB 32 l)[k]=none->parPt l=none) (λh k hk h2=>Zwz h hk h2)
 have HGOOD:=qh ((splitB 32 l).length=4->(∀ k (hk:k<(splitB 32 l).length),Zg5 (splitB 32 l)[k]≠none)->parPt l=some (Zua (splitB 32 l))) (λh h2=>Zuo h h2)
 have HLEN:=qh ((splitB 32 l).length≠4->parPt l=none) Zwy
 have hws:=Zeb 32 l
 clear he
 generalize hW:splitB 32 l=ws at *
 by_cases h4:ws.length=4
 case neg =>
  have HPV:=hdQ (HLEN.out h4)
  have hne:((ws.length:Int) != 4)=true:=by simp;omega
  go_enter Tryz.func137,Tryz.ntmps137
  go_wp2_with fail
  refine (HSP.out _).mono ?_
  rintro e w1 ⟨A,c,rfl,hr,hge,hb1⟩
  have hz1:=hb1.size
  (try simp at hz1)
  have HX1:=qh (Own w1 w.heap.size 43 z12L) (Own.step hb1 (Own.new w _ #[_,_,_,_,_,_,_,_,_,_,_,_]))
  have HB1:=bh w hb1
  have x0:=HX1.out.cell 0;have x1:=HX1.out.cell 1;have x2:=HX1.out.cell 2;have x3:=HX1.out.cell 3;have x4:=HX1.out.cell 4;have x5:=HX1.out.cell 5;have x6:=HX1.out.cell 6;have x7:=HX1.out.cell 7;have x8:=HX1.out.cell 8;have x9:=HX1.out.cell 9;have x10:=HX1.out.cell 10;have x11:=HX1.out.cell 11;(try dsimp only [List.getElem?_cons_succ,List.getElem?_cons_zero] at x0 x1 x2 x3 x4 x5 x6 x7 x8 x9 x10 x11)
  have xf:=HX1.out.frozen
  clear hr hge hb1
  go_wp2_with fail
  exact bodyPost_ret (v:=.tuple #[.agg ⟨z12L⟩,.bool false]) (by simp [results,Tryz.results137,go_sem, *]) rfl ⟨by rw [HPV.out];rfl,bll⟩
 case pos =>
 have hne:((ws.length:Int) != 4)=false:=by simp;omega
 have H4:=hdQ h4
 clear h4
 go_enter Tryz.func137,Tryz.ntmps137
 go_wp2_with fail
 refine (HSP.out _).mono ?_
 rintro e w1 ⟨A,c,rfl,hr,hge,hb1⟩
 have hz1:=hb1.size
 (try simp at hz1)
 have HX1:=qh (Own (w1.alloc (.cells ⟨z12L⟩ 43)) w.heap.size 43 z12L) (Own.alloc (Own.step hb1 (Own.new w _ #[_,_,_,_,_,_,_,_,_,_,_,_])) _)
 have HY1:=qh (Own (w1.alloc (.cells ⟨z12L⟩ 43)) w1.heap.size 43 (cPt (vTo ws 0 0) (vTo ws 0 1) (vTo ws 0 2) (vTo ws 0 3))) (Own.new w1 _ #[_,_,_,_,_,_,_,_,_,_,_,_])
 have HB1:=bh w hb1
 have HR1:=hdQ hr
 have HGE:=qh (∀ x,x∈gOf A->w.heap.size+1<=x/\x<w1.heap.size) (λx hx=>by
  have h1:=hge x hx
  obtain ⟨b,o,rfl,hbl,_⟩:=hr.open_.2.2 (by have:=H4.out;omega)
  simp [gOf] at hx
  simp at h1
  omega)
 clear hr hge hb1
 go_wp2_with fail
 go_loopw [6,7,8,9,19] (λ_ _ _ _ i_ wr=>∃ k:Nat,k<=ws.length/\i_=.int .i64 k/\Hid (∀ j (hj:j<ws.length),j<k->Zg5 ws[j]≠none)/\Own wr w.heap.size 43 z12L/\Own wr w1.heap.size 43 (cPt (vTo ws k 0) (vTo ws k 1) (vTo ws k 2) (vTo ws k 3))/\RS wr 1 A ws.length c (Zck ws)/\Bw w wr) (λ_ _ _ _ i_ _=>ws.length-(RowKit.intOf i_).toNat)
 case atStart=>exact ⟨0,Nat.zero_le _,rfl,hdQ (λj _ h=>absurd h qo),HX1.out,HY1.out,HR1.out.alloc _,bll⟩
 case round =>
  obtain ⟨k,hk,rfl,hall,hx,hy,hr,hb⟩:=hrel
  obtain ⟨wo,rfl⟩:=qe wr
  have hz:=hb.size
  have HX:=hdQ hx
  have HY:=hdQ hy
  have HR:=hdQ hr
  have HB:=hdQ hb
  have hxl:=hx.lt
  have hyl:=hy.lt
  clear hx hy hr hb HX1 HY1 HR1
  by_cases hlt:k<ws.length
  ·obtain ⟨b,o,rfl,hbl,hcell⟩:=HR.out.open_.2.2 qo
   have c0:wo.cell? ⟨b,o+k,none⟩=some (str ws[k]):=by rw [hcell k qo,Zit hlt]
   have i0:(0:Int)<=k:=qo
   have i1:(k:Int)<ws.length:=qo
   have hcl:=HR.out.open_
   have HPV:=qh (∀ wx,Bw w wx->CR 197 #[str ws[k]] wx (outV (Zg5 ws[k]))) (λwx hb=>Zvp _ wx (Nat.le_trans (HM.out _ (List.getElem_mem hlt)) hlim) (HE.out.step hb))
   have HV1:=qh (vTo ws (k+1) k=(Zg5 ws[k]).getD zV) (by rw [vTo_new];unfold vOf;rw [List.getElem?_eq_getElem hlt];rfl)
   have HBK:=qh (Zg5 ws[k]=none->parPt l=none) (HBAD.out H4.out k hlt)
   have HN1:=qh (Zg5 ws[k]≠none->∀ j (hj:j<ws.length),j<k+1->Zg5 ws[j]≠none) (λh j hj hjk=>by
    by_cases e:j=k
    ·subst e;exact h
    ·exact hall.out j hj qo)
   clear hcell HBAD HGOOD
   generalize ws[k]=u at *
   cases hp:Zg5 u with
   | none =>
    have HPN:=hdQ (HBK.out hp)
    rw [hp] at HPV
    have HPV:Hid (∀ wx,Bw w wx->CR 197 #[str u] wx (.tuple #[Zbi 0 0 0,.bool false])):=HPV
    clear hp HV1 HBK HN1
    go_wp2_with fail
    refine (HPV.out _ bll).mono ?_
    rintro e w2 ⟨rfl,hb2⟩
    have hz2:=hb2.size
    have HX2:=hdQ (Own.step hb2 HX.out)
    have HB2:=qh (Bw w w2) (Below.step hb2 HB.out HB.out.size)
    have x0:=HX2.out.cell 0;have x1:=HX2.out.cell 1;have x2:=HX2.out.cell 2;have x3:=HX2.out.cell 3;have x4:=HX2.out.cell 4;have x5:=HX2.out.cell 5;have x6:=HX2.out.cell 6;have x7:=HX2.out.cell 7;have x8:=HX2.out.cell 8;have x9:=HX2.out.cell 9;have x10:=HX2.out.cell 10;have x11:=HX2.out.cell 11;(try dsimp only [List.getElem?_cons_succ,List.getElem?_cons_zero] at x0 x1 x2 x3 x4 x5 x6 x7 x8 x9 x10 x11)
    have xf:=HX2.out.frozen
    have xl:=HX2.out.lt
    have xn:¬ w.heap.size=w2.heap.size:=qo
    clear hb2
    go_wp2_with fail
    exact bodyPost_ret (v:=.tuple #[.agg ⟨z12L⟩,.bool false]) (by simp [results,Tryz.results137,go_sem, *]) rfl ⟨by rw [HPN.out];rfl,bll⟩
   | some V =>
    rw [hp] at HPV HV1
    have HPV:Hid (∀ wx,Bw w wx->CR 197 #[str u] wx (.tuple #[vV V,.bool true])):=HPV
    have HALL:=hdQ (HN1.out (by rw [hp];simp))
    clear hp HBK HN1
    rcases (show k=0∨k=1∨k=2∨k=3 by have:=H4.out;omega) with h0|h0|h0|h0
    ·subst h0
     (try simp only [Nat.add_zero] at c0)
     go_wp2_with fail
     refine (HPV.out _ bll).mono ?_
     rintro e w2 ⟨rfl,hb2⟩
     have hz2:=hb2.size
     have HX2:=hdQ (Own.step hb2 HX.out)
     have HY2:=hdQ (Own.step hb2 HY.out)
     have HR2:=hdQ (RS.step hb2 HR.out)
     have HB2:=qh (Bw w w2) (Below.step hb2 HB.out HB.out.size)
     have yf:=HY2.out.frozen
     have yl:=HY2.out.lt
     have y0:=HY2.out.cell 0
     have y1:=HY2.out.cell 1
     have y2:=HY2.out.cell 2
     have yn:¬ w1.heap.size=w2.heap.size:=qo
     have yn2:¬ w2.heap.size=w1.heap.size:=qo
     (try dsimp only [cPt,List.getElem?_cons_succ,List.getElem?_cons_zero] at y0 y1 y2)
     clear hb2
     go_wp2_with fail
     go_roundw
     case rel =>
      refine ⟨0+1,by have:=H4.out;omega,qg,HALL,(owx HX2.out), ?_, ?_,bll⟩
      ·have:=Own.alloc (Own.set_ (Own.set_ (Own.set_ HY2.out 0 (.int .i64 V.1)) 1 (.int .i64 V.2.1)) 2 (.int .i64 V.2.2)) (.cells #[.int .i64 V.1,.int .i64 V.2.1,.int .i64 V.2.2] 40)
       rw [HV1.out,Zcg (ws:=ws) (k:=0) (j:=1) qd,Zcg (ws:=ws) (k:=0) (j:=2) qd,Zcg (ws:=ws) (k:=0) (j:=3) qd]
       exact this
      ·exact (by repeat (first|(with_reducible exact HR2.out)|(with_reducible refine RS.alloc ?_ _)|((with_reducible refine RS.setCell ?_ ?_ _);rotate_left;(intro ad had;injection had with had;subst had;have:=HGE.out b (by simp [gOf]);simp<;>omega))))
     case measure=>exact qn
    ·subst h0
     (try simp only [Nat.add_zero] at c0)
     go_wp2_with fail
     refine (HPV.out _ bll).mono ?_
     rintro e w2 ⟨rfl,hb2⟩
     have hz2:=hb2.size
     have HX2:=hdQ (Own.step hb2 HX.out)
     have HY2:=hdQ (Own.step hb2 HY.out)
     have HR2:=hdQ (RS.step hb2 HR.out)
     have HB2:=qh (Bw w w2) (Below.step hb2 HB.out HB.out.size)
     have yf:=HY2.out.frozen
     have yl:=HY2.out.lt
     have y3:=HY2.out.cell 3
     have y4:=HY2.out.cell 4
     have y5:=HY2.out.cell 5
     have yn:¬ w1.heap.size=w2.heap.size:=qo
     have yn2:¬ w2.heap.size=w1.heap.size:=qo
     (try dsimp only [cPt,List.getElem?_cons_succ,List.getElem?_cons_zero] at y3 y4 y5)
     clear hb2
     go_wp2_with fail
     go_roundw
     case rel =>
      refine ⟨1+1,by have:=H4.out;omega,qg,HALL,(owx HX2.out), ?_, ?_,bll⟩
      ·have:=Own.alloc (Own.set_ (Own.set_ (Own.set_ HY2.out 3 (.int .i64 V.1)) 4 (.int .i64 V.2.1)) 5 (.int .i64 V.2.2)) (.cells #[.int .i64 V.1,.int .i64 V.2.1,.int .i64 V.2.2] 40)
       rw [Zcg (ws:=ws) (k:=1) (j:=0) qd,HV1.out,Zcg (ws:=ws) (k:=1) (j:=2) qd,Zcg (ws:=ws) (k:=1) (j:=3) qd]
       exact this
      ·exact (by repeat (first|(with_reducible exact HR2.out)|(with_reducible refine RS.alloc ?_ _)|((with_reducible refine RS.setCell ?_ ?_ _);rotate_left;(intro ad had;injection had with had;subst had;have:=HGE.out b (by simp [gOf]);simp<;>omega))))
     case measure=>exact qn
    ·subst h0
     (try simp only [Nat.add_zero] at c0)
     go_wp2_with fail
     refine (HPV.out _ bll).mono ?_
     rintro e w2 ⟨rfl,hb2⟩
     have hz2:=hb2.size
     have HX2:=hdQ (Own.step hb2 HX.out)
     have HY2:=hdQ (Own.step hb2 HY.out)
     have HR2:=hdQ (RS.step hb2 HR.out)
     have HB2:=qh (Bw w w2) (Below.step hb2 HB.out HB.out.size)
     have yf:=HY2.out.frozen
     have yl:=HY2.out.lt
     have y6:=HY2.out.cell 6
     have y7:=HY2.out.cell 7
     have y8:=HY2.out.cell 8
     have yn:¬ w1.heap.size=w2.heap.size:=qo
     have yn2:¬ w2.heap.size=w1.heap.size:=qo
     (try dsimp only [cPt,List.getElem?_cons_succ,List.getElem?_cons_zero] at y6 y7 y8)
     clear hb2
     go_wp2_with fail
     go_roundw
     case rel =>
      refine ⟨2+1,by have:=H4.out;omega,qg,HALL,(owx HX2.out), ?_, ?_,bll⟩
      ·have:=Own.alloc (Own.set_ (Own.set_ (Own.set_ HY2.out 6 (.int .i64 V.1)) 7 (.int .i64 V.2.1)) 8 (.int .i64 V.2.2)) (.cells #[.int .i64 V.1,.int .i64 V.2.1,.int .i64 V.2.2] 40)
       rw [Zcg (ws:=ws) (k:=2) (j:=0) qd,Zcg (ws:=ws) (k:=2) (j:=1) qd,HV1.out,Zcg (ws:=ws) (k:=2) (j:=3) qd]
       exact this
      ·exact (by repeat (first|(with_reducible exact HR2.out)|(with_reducible refine RS.alloc ?_ _)|((with_reducible refine RS.setCell ?_ ?_ _);rotate_left;(intro ad had;injection had with had;subst had;have:=HGE.out b (by simp [gOf]);simp<;>omega))))
     case measure=>exact qn
    ·subst h0
     (try simp only [Nat.add_zero] at c0)
     go_wp2_with fail
     refine (HPV.out _ bll).mono ?_
     rintro e w2 ⟨rfl,hb2⟩
     have hz2:=hb2.size
     have HX2:=hdQ (Own.step hb2 HX.out)
     have HY2:=hdQ (Own.step hb2 HY.out)
     have HR2:=hdQ (RS.step hb2 HR.out)
     have HB2:=qh (Bw w w2) (Below.step hb2 HB.out HB.out.size)
     have yf:=HY2.out.frozen
     have yl:=HY2.out.lt
     have y9:=HY2.out.cell 9
     have y10:=HY2.out.cell 10
     have y11:=HY2.out.cell 11
     have yn:¬ w1.heap.size=w2.heap.size:=qo
     have yn2:¬ w2.heap.size=w1.heap.size:=qo
     (try dsimp only [cPt,List.getElem?_cons_succ,List.getElem?_cons_zero] at y9 y10 y11)
     clear hb2
     go_wp2_with fail
     go_roundw
     case rel =>
      refine ⟨3+1,by have:=H4.out;omega,qg,HALL,(owx HX2.out), ?_, ?_,bll⟩
      ·have:=Own.alloc (Own.set_ (Own.set_ (Own.set_ HY2.out 9 (.int .i64 V.1)) 10 (.int .i64 V.2.1)) 11 (.int .i64 V.2.2)) (.cells #[.int .i64 V.1,.int .i64 V.2.1,.int .i64 V.2.2] 40)
       rw [Zcg (ws:=ws) (k:=3) (j:=0) qd,Zcg (ws:=ws) (k:=3) (j:=1) qd,Zcg (ws:=ws) (k:=3) (j:=2) qd,HV1.out]
       exact this
      ·exact (by repeat (first|(with_reducible exact HR2.out)|(with_reducible refine RS.alloc ?_ _)|((with_reducible refine RS.setCell ?_ ?_ _);rotate_left;(intro ad had;injection had with had;subst had;have:=HGE.out b (by simp [gOf]);simp<;>omega))))
     case measure=>exact qn
  ·obtain rfl:k=ws.length:=by omega
   have HPV:=hdQ (HGOOD.out H4.out (λj hj=>hall.out j hj hj))
   have HP:=qh (Zua ws=Zst (vTo ws ws.length 0) (vTo ws ws.length 1) (vTo ws ws.length 2) (vTo ws ws.length 3)) (ptTo_end ws).symm
   rw [HP.out] at HPV
   clear HP HBAD HGOOD
   generalize vTo ws ws.length 0=V0 at *
   generalize vTo ws ws.length 1=V1 at *
   generalize vTo ws ws.length 2=V2 at *
   generalize vTo ws ws.length 3=V3 at *
   have y0:=HY.out.cell 0;have y1:=HY.out.cell 1;have y2:=HY.out.cell 2;have y3:=HY.out.cell 3;have y4:=HY.out.cell 4;have y5:=HY.out.cell 5;have y6:=HY.out.cell 6;have y7:=HY.out.cell 7;have y8:=HY.out.cell 8;have y9:=HY.out.cell 9;have y10:=HY.out.cell 10;have y11:=HY.out.cell 11;(try dsimp only [cPt,List.getElem?_cons_succ,List.getElem?_cons_zero] at y0 y1 y2 y3 y4 y5 y6 y7 y8 y9 y10 y11)
   have x0:=HX.out.cell 0;have x1:=HX.out.cell 1;have x2:=HX.out.cell 2;have x3:=HX.out.cell 3;have x4:=HX.out.cell 4;have x5:=HX.out.cell 5;have x6:=HX.out.cell 6;have x7:=HX.out.cell 7;have x8:=HX.out.cell 8;have x9:=HX.out.cell 9;have x10:=HX.out.cell 10;have x11:=HX.out.cell 11;(try dsimp only [List.getElem?_cons_succ,List.getElem?_cons_zero] at x0 x1 x2 x3 x4 x5 x6 x7 x8 x9 x10 x11)
   have xf:=HX.out.frozen
   have nn:¬ w.heap.size=w1.heap.size:=qo
   go_wp2_with fail
   exact bodyPost_ret (v:=.tuple #[.agg ⟨cPt V0 V1 V2 V3⟩,.bool true]) (by simp [results,Tryz.results137,go_sem,cPt, *]) rfl ⟨by rw [HPV.out];rfl,bll⟩
end
end Go.Proofs.YticdknjoapdmeaaGreatDoor
