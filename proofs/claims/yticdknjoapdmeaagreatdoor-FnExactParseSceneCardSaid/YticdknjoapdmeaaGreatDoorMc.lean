/- Several texts in one: LawD, TxtF, TxtE, Ints, Mark, App, Within, TxtJ, TxtKN, Divs, Bools, Recs, Flat, Pairs, Marks, Made, Vec, Camera, Texel, SceneP, SplP, Spl, TxtQ, TxtR, PInts, LexP, ParP, LexQ. -/
import Derived.Test.YticdknjoapdmeaaGreatDoorMa
import Derived.LaidLaws
import Derived.Handed
import Derived.SevenTiedAt
import Derived.SizedLaws
import Derived.Stop.LaidErr
import Derived.Test.YticdknjoapdmeaaGreatDoorTie
import Derived.Test.YticdknjoapdmeaaGreatDoorCards
import Derived.Test.YticdknjoapdmeaaGreatDoorShelfD
import Derived.LaidSub
import Derived.Test.YticdknjoapdmeaaGreatDoorRows
import Derived.BigQuiet
import Derived.Deep.QuietTactic
import Derived.Maps.AppendAt
import Derived.Laws.AppendOwnNone
import Derived.RegionTactic
import Derived.StillTailTactics
import Derived.Deep.RegionHeld3
import Derived.WalkSpells
import Derived.Lib.IndexMore
set_option linter.unusedVariables false
set_option linter.unusedSimpArgs false
namespace Go.Proofs.YticdknjoapdmeaaGreatDoor
set_option maxHeartbeats 8000000
open Go.ChangeShapes Go.WideShapes Go.ChangeAt Go.RowKit
end Go.Proofs.YticdknjoapdmeaaGreatDoor
namespace Go.Proofs.YticdknjoapdmeaaGreatDoor
set_option maxRecDepth 100000
open Go.RowKit Go.Lib
theorem Zcj (n:Int) (w:World) :
  Calls Tryz.prog 58 #[.int .i64 n] w λe w'=>e=.returned (str (fmtI n))/\Below w.heap.size w w':=by
 by_cases hn:Zcg n
 ·obtain ⟨h1,h2⟩:=hn
  by_cases h0:n<0
  ·have hi:inB n (-1000000000) 1000000000=true:=inB_mk qo qo
   obtain ⟨m,hm⟩:∃ m:Nat, -n=m:=⟨n.natAbs,qo⟩
   have hw:IntKind.i64.wrap (-n)=(m:Int):=by rw [hm];exact IntWalk.i64_in _ qo
   have hf:fmtI n=45::decDigits m:=by
    rw [fmtI_in ⟨h1,h2⟩];unfold itoa;rw [if_pos h0,show n.natAbs=m by omega]
   have HF:=hdQ hf
   have hm9:m<=1000000000:=qo
   have hsl:¬ 9223372036854775807<1+(decDigits m).length:=by
    rw [decDigits_length];have:=Zef 9 m qo;omega
   clear hf
   go_enter Tryz.func58,Tryz.ntmps58
   go_wp2_with (first|(go_at_call 119;refine (S_in _ _ _ _).mono ?_;rw [hi];rintro e w' ⟨rfl,rfl⟩)|fail)
   (try rw [hw])
   refine (Zdk m hm9 _).mono ?_
   rintro e w' ⟨rfl,hb⟩
   go_wp2_with fail
   go_ret
   refine ⟨?_,bll⟩
   rw [HF.out]
   show Ending.returned (Value.string (({ data:=[45].toArray }:ByteArray)++{ data:=(decDigits m).toArray }))=_
   rw [Zab];rfl
  ·obtain ⟨m,rfl⟩:∃ m:Nat,n=m:=⟨n.toNat,qo⟩
   have e:fmtI (m:Int)=decDigits m:=by
    rw [fmtI_in ⟨h1,h2⟩];unfold itoa;rw [if_neg h0];rfl
   rw [e]
   exact Zdk m qo w
 ·have hi:inB n (-1000000000) 1000000000=false:=by
   cases h:inB n (-1000000000) 1000000000 with
   | false=>rfl
   | true=>exact absurd (Zbk h) hn
  have HF:=hdQ (fmtI_out hn)
  clear hn
  go_enter Tryz.func58,Tryz.ntmps58
  go_wp2_with (first|(go_at_call 119;refine (S_in _ _ _ _).mono ?_;rw [hi];rintro e w' ⟨rfl,rfl⟩)|fail)
  go_ret
  exact ⟨by rw [HF.out];rfl,bll⟩
def Tab (w:World):Prop:=TabIs Tryz.prog w "internal/strconv.uint64pow10" .u64 pow10Tab
theorem Tab.step {w w':World} (h:Tab w) (hb:Below w.heap.size w w'):Tab w':=by
 unfold Tab TabIs World.var? at *
 rw [show Tryz.prog.globalNamed "internal/strconv.uint64pow10" = some 6 by kernel_rfl] at *
 simp only [Option.bind_some] at *
 have hlt:6<w.heap.size:=by
  rcases Nat.lt_or_ge 6 w.heap.size with h'|h'
  ·exact h'
  ·simp [Array.getElem?_eq_none h'] at h
 rw [hb.block _ hlt]
 exact h
theorem Tab.trans {B:Nat} {w w':World} (h:Tab w) (hb:Below B w w') (hB:B=w.heap.size):Tab w':=h.step (hB ▸ hb)
theorem below_grow {w:World} (k:Nat) (os:Array Obj):Below w.heap.size w (Sort.grow (w.drewN k) os) :=
 ⟨rfl,rfl,rfl,by simp [Sort.grow,World.drewN],λj hj=>by
  show (w.heap++os)[j]? = w.heap[j]?
  rw [Array.getElem?_append_left hj]⟩
theorem Zdy (n:Int) (w:World) (ht:Tab w) :
  Calls Tryz.prog 42 #[.int .i64 n] w λe w'=>e=.returned (str (fmtI n))/\Below w.heap.size w w':=by
 by_cases hn:Zcg n
 ·have h1:¬ n < -1000000000:=by have:=hn.1;omega
  have h2:¬ 1000000000<n:=by have:=hn.2;omega
  have HF:=hdQ (fmtI_in hn)
  clear hn
  go_enter Tryz.func42,Tryz.ntmps42
  go_wp2_with fail
  refine (Tryz.strconv_Itoa n qo qo _ ht).mono ?_
  rintro e w' ⟨rfl,k,os,rfl⟩
  go_wp2_with fail
  go_ret
  exact ⟨by rw [HF.out];rfl,below_grow k os⟩
 ·have HF:=hdQ (fmtI_out hn)
  by_cases h1:n < -1000000000
  ·clear hn
   go_enter Tryz.func42,Tryz.ntmps42
   go_wp2_with fail
   go_ret
   exact ⟨by rw [HF.out];rfl,bll⟩
  ·have h2:1000000000<n:=by unfold Zcg at hn;omega
   clear hn
   go_enter Tryz.func42,Tryz.ntmps42
   go_wp2_with fail
   go_ret
   exact ⟨by rw [HF.out];rfl,bll⟩
theorem tab_of_laid {W:World} {l:List (String×DataW Unit)} (h:laidMet Tryz.prog l W) (e:(l.filter λx=>x.1 == "internal/strconv.uint64pow10")=[("internal/strconv.uint64pow10",Rows.laid_internal_strconv_uint64pow10)]:=by rfl):Tab W :=
 tabIs_of_head (k:=.u64) (zs:=pow10Tab) (rest:=[]) (e:=269) (n:=20) (show Tryz.prog.globalNamed "internal/strconv.uint64pow10" = some 6 by kernel_rfl) (show (Tryz.prog.globals[6]?).map (·.type)=some 311 by kernel_rfl) Tryz.underlying311 Tryz.underlying269 kr kr (by have h2:=laidMet.filter (λx=>x.1 == "internal/strconv.uint64pow10") h;rw [e] at h2;exact h2)
theorem var_step {w w':World} {n:String} {cs:Array Value} (h:w.var? Tryz.prog n=some cs) (hb:Below w.heap.size w w'):w'.var? Tryz.prog n=some cs:=by
 unfold World.var? at *
 cases hg:Tryz.prog.globalNamed n with
 | none=>rw [hg] at h;cases h
 | some g =>
  rw [hg] at h
  simp only [Option.bind_some] at *
  have hlt:g<w.heap.size:=by
   rcases Nat.lt_or_ge g w.heap.size with h'|h'
   ·exact h'
   ·simp [Array.getElem?_eq_none h'] at h
  rw [hb.block _ hlt]
  exact h
structure Env (w:World):Prop where
 tab:Tab w
 rng:∃ tp p,w.var? Tryz.prog "strconv.ErrRange" = some #[.iface tp p]
 syn:∃ tp p,w.var? Tryz.prog "strconv.ErrSyntax" = some #[.iface tp p]
 mlen:∃ m,w.cell? ⟨0,0,none⟩=some (.int .i64 m)
theorem Env.step {w w':World} (h:Env w) (hb:Below w.heap.size w w'):Env w':=by
 obtain ⟨h1,⟨t2,p2,h2⟩,⟨t3,p3,h3⟩,⟨m,h4⟩⟩:=h
 refine ⟨h1.step hb,⟨t2,p2,var_step h2 hb⟩,⟨t3,p3,var_step h3 hb⟩,⟨m, ?_⟩⟩
 have hlt:0<w.heap.size:=by
  rcases Nat.lt_or_ge 0 w.heap.size with h'|h'
  ·exact h'
  ·simp [World.cell?,Array.getElem?_eq_none h'] at h4
 exact (hb.cell (p:=⟨0,0,none⟩) hlt).trans h4
theorem star_es : "*" ++ "errors.errorString" = "*errors.errorString" := qd
theorem row_es (u:TypeId) (h:Tryz.prog.typeName? 3 u=some "*errors.errorString"):u=318 :=
 typeName_ptr_named (nm := "errors.errorString") (by rw [star_es];kernel_rfl) kr qd u (by rw [star_es];exact h)
theorem Env.of_laid {W:World} {l:List (String×DataW Unit)} (h:laidMet Tryz.prog l W) (hsh:W.ShapedOpen Tryz.prog) (e0:(l.filter λx=>x.1 == "internal/strconv.uint64pow10")=[("internal/strconv.uint64pow10",Rows.laid_internal_strconv_uint64pow10)]:=by rfl) (e1:(l.filter λx=>x.1 == "strconv.ErrRange")=[("strconv.ErrRange",Rows.laid_strconv_ErrRange)]:=by rfl) (e2:(l.filter λx=>x.1 == "strconv.ErrSyntax")=[("strconv.ErrSyntax",Rows.laid_strconv_ErrSyntax)]:=by rfl):Env W:=by
 have h1:=laidMet.filter (λx=>x.1 == "strconv.ErrRange") h
 have h2:=laidMet.filter (λx=>x.1 == "strconv.ErrSyntax") h
 rw [e1] at h1
 rw [e2] at h2
 refine ⟨tab_of_laid h e0, ?_, ?_,Tryz.laysM145.s1_3 W hsh⟩
 ·obtain ⟨x,_,h1,_⟩:=laid_sentinel h1 (show Tryz.prog.globalNamed "strconv.ErrRange" = some 5 by kernel_rfl) (show (Tryz.prog.globals[5]?).map (·.type)=some 132 by kernel_rfl) Tryz.underlying132 row_es Tryz.underlying318 Tryz.underlying320 rfl rfl Tryz.underlying9 kr kr
  exact ⟨_,_,h1⟩
 ·obtain ⟨x,_,h1,_⟩:=laid_sentinel h2 (show Tryz.prog.globalNamed "strconv.ErrSyntax" = some 4 by kernel_rfl) (show (Tryz.prog.globals[4]?).map (·.type)=some 132 by kernel_rfl) Tryz.underlying132 row_es Tryz.underlying318 Tryz.underlying320 rfl rfl Tryz.underlying9 kr kr
  exact ⟨_,_,h1⟩
theorem Atoi_bad (s:ByteArray) (hlim:s.size<=281474976710656) (h:∀ v,Lib.atoiAll s.data.toList ≠ .ok v) (w:World) (he:Env w) :
  Calls Tryz.prog 133 #[.string s] w λe w'=>∃ (v:Int) (N:Nat),e=.returned (.tuple #[.int .i64 v,.iface 241 (.pointer (some ⟨N,0,none⟩))])/\Below w.heap.size w w':=by
 cases ha:Lib.atoiAll s.data.toList
 ·exact absurd ha (h _)
 ·obtain ⟨tp,p,hv⟩:=he.syn
  have h0:Calls Tryz.prog 133 #[.string s] w λe w'=>∃ N,e=.returned (.tuple #[.int .i64 0,.iface 241 (.pointer (some ⟨N,0,none⟩))])/\w.heap.size<=N/\w'.heap[N]? = some (.cells #[.string ⟨#[65,116,111,105]⟩,.string s,.iface tp p] 291 (0,0))/\Below w.heap.size w w':=Any.strconv_Atoi_syntax_var Tryz.laysC172 s hlim ha tp p w hv
  exact h0.mono λe w' ⟨N,he,_,_,hb⟩=>⟨0,N,he,hb⟩
 ·obtain ⟨tp,p,hv⟩:=he.rng
  have h0:Calls Tryz.prog 133 #[.string s] w λe w'=>∃ N,e=.returned (.tuple #[.int .i64 (Lib.atoiSat s.data.toList),.iface 241 (.pointer (some ⟨N,0,none⟩))])/\w.heap.size<=N/\w'.heap[N]? = some (.cells #[.string ⟨#[65,116,111,105]⟩,.string s,.iface tp p] 291 (0,0))/\Below w.heap.size w w':=Any.strconv_Atoi_range_var Tryz.laysC172 s hlim ha tp p w hv
  exact h0.mono λe w' ⟨N,he,_,_,hb⟩=>⟨_,N,he,hb⟩
end Go.Proofs.YticdknjoapdmeaaGreatDoor
namespace Go.Proofs.YticdknjoapdmeaaGreatDoor
set_option maxRecDepth 512
open Go.RowKit
def SameTo (l m:List Int) (k:Nat):Prop:=l.take k=m.take k
theorem SameTo.succ {l m:List Int} {k:Nat} (h:SameTo l m k) (hl:k<l.length) (hm:k<m.length) (e:l[k]=m[k]):SameTo l m (k+1):=by
 unfold SameTo at *
 rw [List.take_succ_eq_append_getElem hl,List.take_succ_eq_append_getElem hm,h,e]
theorem SameTo.whole {l m:List Int} (h:SameTo l m l.length) (hlen:l.length=m.length):l=m:=by
 unfold SameTo at h
 rwa [List.take_of_length_le (Nat.le_refl _),hlen,List.take_of_length_le (Nat.le_refl _)] at h
theorem Zdf {l:List Int} {k:Nat} (h:k<l.length):(ints l)[k]? = some (.int .i64 l[k]):=by simp [h]
set_option maxHeartbeats 400000 in
theorem L_eqIntS (A A':Option Addr) (c c':Nat) (l m:List Int) (w:World) (h:RS w 1 A l.length c (ints l)) (h':RS w 1 A' m.length c' (ints m)) :
  Calls Tryz.prog 81 #[.slice A l.length c,.slice A' m.length c'] w λe w'=>e=.returned (.bool (decide (l=m)))/\Below w.heap.size w w':=by
 obtain ⟨hn,hc,hr⟩:=h.open_
 obtain ⟨hn',hc',hr'⟩:=h'.open_
 unfold maxLen at hc hc'
 clear h h'
 by_cases hlen:l.length=m.length
 case neg =>
  have e1:decide (l=m)=false:=by simp;intro e;exact hlen (by rw [e])
  have e2:((l.length:Int) != (m.length:Int))=true:=by simp;omega
  have HE:=hdQ e1
  clear e1 hr hr'
  go_enter Tryz.func81,Tryz.ntmps81
  go_wp2
  go_ret
  exact ⟨Zad HE.out.symm,Below.refl _ _⟩
 case pos =>
  have e2:((l.length:Int) != (m.length:Int))=false:=by simp;omega
  have HL:=hdQ hlen
  have HR:=hdQ hr
  have HR':=hdQ hr'
  have hB0:=Below.refl w.heap.size w
  clear hlen hr hr'
  obtain ⟨w0,hw0⟩:∃ w0,w0=w:=⟨_,rfl⟩
  have HW:=hdQ hw0
  clear hw0
  go_enter Tryz.func81,Tryz.ntmps81
  go_wp2
  go_loopw [5] (λi wr=>∃ k:Nat,k<=l.length/\i=.int .i64 k/\SameTo l m k/\Below w.heap.size w wr) (λi _=>l.length-(intOf i).toNat)
  case atStart=>exact ⟨0,Nat.zero_le _,rfl,rfl,hB0⟩
  case round =>
   obtain ⟨k,hk,rfl,hst,hb⟩:=hrel
   have HB:=hdQ hb
   clear hb hB0
   by_cases hlt:k<l.length
   ·have hltm:k<m.length:=by have:=HL.out;omega
    obtain ⟨b,o,rfl,hbh,hcell⟩:=HR.out qo
    obtain ⟨b',o',rfl,hbh',hcell'⟩:=HR'.out qo
    have c1:wr.cell? ⟨b,o+k,none⟩=some (.int .i64 l[k]):=by
     rw [(bcell HB.out).1 _ _ qo,hcell k qo,Zdf hlt]
    have c2:wr.cell? ⟨b',o'+k,none⟩=some (.int .i64 m[k]):=by
     rw [(bcell HB.out).1 _ _ qo,hcell' k qo,Zdf hltm]
    clear hcell hcell'
    have b0:(0:Int)<=k:=qo
    have b1:(k:Int)<l.length:=qo
    have b2:(k:Int)<m.length:=qo
    by_cases he:l[k]=m[k]
    ·have ht:(l[k] != m[k])=false:=by simp [he]
     have HE:=hdQ he
     clear he
     go_wp2
     go_quiet (fail)
     go_wp2
     go_roundw
     case rel=>exact ⟨k+1,qo,qg,hst.succ hlt hltm HE.out,Zb6 HB.out _⟩
     case measure=>simp [intOf];omega
    ·have ht:(l[k] != m[k])=true:=by simp [he]
     have hf:decide (l=m)=false:=by simp;intro e;subst e;exact he rfl
     have HF:=hdQ hf
     clear he hf
     go_wp2
     go_quiet (fail)
     go_wp2
     go_ret
     exact ⟨Zad HF.out.symm,Zb6 HB.out _⟩
   ·have hf:decide (l=m)=true:=by
     simp
     obtain rfl:k=l.length:=qo
     exact hst.whole HL.out
    have HF:=hdQ hf
    clear hf
    go_wp2
    go_ret
    exact ⟨Zad HF.out.symm,HB.out⟩
theorem T.infoInt:(Tryz.prog.info? 3).map (λi=>(i.zero,i.size,i.bytes))=some (some (.int .i64 0),1,8):=kr
def Filled (l:List Int) (cs:List Value) (k:Nat):Prop:=cs.length=l.length/\∀ j,j<k->cs[j]? = (ints l)[j]?
theorem Filled.succ {l:List Int} {cs:List Value} {k:Nat} (h:Filled l cs k) (hk:k<l.length):Filled l (cs.set k (.int .i64 l[k])) (k+1):=by
 refine ⟨by rw [List.length_set];exact h.1,λj hj=>?_⟩
 by_cases e:k=j
 ·subst e;rw [List.getElem?_set_self (by rw [h.1];exact hk),Zdf hk]
 ·rw [List.getElem?_set_ne e];exact h.2 j qo
structure Only (B:Nat) (G:List Nat) (w w':World):Prop where
 os:w'.os=w.os
 tape:w'.tape=w.tape
 output:w'.output=w.output
 size:w.heap.size<=w'.heap.size
 block:∀ k,k<B->k∉G->w'.heap[k]? = w.heap[k]?
theorem Only.refl (B:Nat) (G:List Nat) (w:World):Only B G w w:=⟨rfl,rfl,rfl,Nat.le_refl _,λ_ _ _=>rfl⟩
theorem Only.of_below {B:Nat} {w w':World} (h:Below B w w') (G:List Nat):Only B G w w':=⟨h.os,h.tape,h.output,h.size,λk hk _=>h.block k hk⟩
theorem Only.trans {B C:Nat} {G H:List Nat} {a b c:World} (h:Only B G a b) (k:Only C H b c) (hB:B<=C) (hG:∀ x,x∈H->x∈G):Only B G a c :=
 ⟨k.os.trans h.os,k.tape.trans h.tape,k.output.trans h.output,Nat.le_trans h.size k.size,λi hi hn=>(k.block i qo (λhx=>hn (hG _ hx))).trans (h.block i hi hn)⟩
theorem Only.setCell {B:Nat} {G:List Nat} {a w:World} (h:Only B G a w) {p:Addr} (hp:p.block∈G) (u:Value):Only B G a (w.setCell p u) :=
 ⟨h.os,h.tape,h.output,by simpa [World.setCell] using h.size,λi hi hn=>(Below.heap_setCell w p u i (λe=>hn (e ▸ hp))).trans (h.block i hi hn)⟩
theorem Only.drew {B:Nat} {G:List Nat} {a w:World} (h:Only B G a w):Only B G a w.drew:=⟨h.os,h.tape,h.output,h.size,h.block⟩
theorem Only.drewN {B:Nat} {G:List Nat} {a w:World} (h:Only B G a w) (n:Nat):Only B G a (w.drewN n):=⟨h.os,h.tape,h.output,h.size,h.block⟩
theorem Only.below {B C:Nat} {G:List Nat} {a w:World} (h:Only B G a w) (hC:C<=B) (hG:∀ x,x∈G->C<=x):Below C a w :=
 ⟨h.os,h.tape,h.output,h.size,λi hi=>h.block i qo (λhx=>by have:=hG i hx;omega)⟩
theorem Only.own {B:Nat} {G:List Nat} {a w:World} (h:Only B G a w) {g:Nat} {t:TypeId} {cs:List Value} (ho:Own a g t cs) (hB:g<B) (hG:g∉G):Own w g t cs:=(h.block g hB hG).trans ho
theorem Only.cell {B:Nat} {G:List Nat} {a w:World} (h:Only B G a w) (g:Nat) (hB:g<B) (hG:g∉G):(∀ o,w.cell? ⟨g,o,none⟩=a.cell? ⟨g,o,none⟩)/\(∀ o,w.frozen? ⟨g,o,none⟩=a.frozen? ⟨g,o,none⟩):=by
 have:=h.block g hB hG
 exact ⟨λo=>by simp [World.cell?,this],λo=>by simp [World.frozen?,this]⟩
def Zby (k:Int) (n:Nat):List Int:=(List.range n).map (λ(i:Nat)=>k+i)
theorem upFrom_at {k:Int} {n i:Nat} (h:i<n):(ints (Zby k n))[i]? = some (.int .i64 (k+i)):=by simp [Zby,h]
theorem L_markIntS0 {c:Nat} {k:Int} (w:World):Calls Tryz.prog 84 #[.slice none 0 c,.int .i64 k] w λe w'=>e=.returned (.int .i64 k)/\w=w':=by
 go_enter Tryz.func84,Tryz.ntmps84
 go_wp2
 go_loopw [1,5] (λv i wr=>v=.int .i64 k/\i=.int .i64 0/\w=wr) (λ_ _ _=>0)
 case atStart=>exact ⟨rfl,rfl,rfl⟩
 case round =>
  obtain ⟨rfl,rfl,rfl⟩:=hrel
  go_wp2
  go_ret
  exact ⟨rfl,rfl⟩
theorem L_heldIntS0 {c:Nat} {k:Int} (w:World):Calls Tryz.prog 87 #[.slice none 0 c,.int .i64 k] w λe w'=>e=.returned (.int .i64 k)/\w=w':=by
 go_enter Tryz.func87,Tryz.ntmps87
 go_wp2
 go_loopw [1,5] (λv i wr=>v=.int .i64 k/\i=.int .i64 0/\w=wr) (λ_ _ _=>0)
 case atStart=>exact ⟨rfl,rfl,rfl⟩
 case round =>
  obtain ⟨rfl,rfl,rfl⟩:=hrel
  go_wp2
  go_ret
  exact ⟨rfl,rfl⟩
def Marked (k:Int) (n:Nat) (cs:List Value) (i:Nat):Prop:=cs.length=n/\∀ j,j<i->cs[j]? = (ints (Zby k n))[j]?
theorem Marked.succ {k:Int} {n i:Nat} {cs:List Value} (h:Marked k n cs i) (hi:i<n):Marked k n (cs.set i (.int .i64 (k+i))) (i+1):=by
 refine ⟨by rw [List.length_set];exact h.1,λj hj=>?_⟩
 by_cases e:i=j
 ·subst e;rw [List.getElem?_set_self (by rw [h.1];exact hi),upFrom_at hi]
 ·rw [List.getElem?_set_ne e];exact h.2 j qo
theorem Marked.all {k:Int} {n:Nat} {cs:List Value} (h:Marked k n cs n):cs=ints (Zby k n):=by
 apply List.ext_getElem?
 intro j
 by_cases hj:j<n
 ·exact h.2 j hj
 ·rw [List.getElem?_eq_none (by rw [h.1];omega),List.getElem?_eq_none (by simp [Zby];omega)]
theorem Own.set_left {w:World} {g:Nat} {t:TypeId} {cs ds:List Value} (h:Own w g t (cs++ds)) (i:Nat) (hi:i<cs.length) (u:Value):Own (w.setCell ⟨g,i,none⟩ u) g t (cs.set i u++ds):=by
 have:=h.set_ i u
 rwa [List.set_append_left _ _ hi] at this
theorem L_markIntS {g n c:Nat} {cs ds:List Value} {k:Int} (w:World) (h:Own w g 3 (cs++ds)) (hl:cs.length=n) (hc:n<=c) (hc':c<=maxLen) (hn:n<=1048576) (h0:0<=k) (h1:k<=1099511627776) :
  Calls Tryz.prog 84 #[.slice (some ⟨g,0,none⟩) n c,.int .i64 k] w λe w'=>e=.returned (.int .i64 (k+n))/\Own w' g 3 (ints (Zby k n)++ds)/\Only w.heap.size [g] w w':=by
 unfold maxLen at hc'
 have HO0:=hdQ h
 clear h
 go_enter Tryz.func84,Tryz.ntmps84
 go_wp2
 go_loopw [1,5] (λv i wr=>∃ (m:Nat) (es:List Value),m<=n/\v=.int .i64 (k+m)/\i=.int .i64 m/\Marked k n es m/\Own wr g 3 (es++ds)/\Only w.heap.size [g] w wr) (λ_ i _=>n-(intOf i).toNat)
 case atStart=>exact ⟨0,cs,Nat.zero_le _,qs,rfl,⟨hl,λj hj=>absurd hj qo⟩,HO0.out,Only.refl _ _ _⟩
 case round =>
  obtain ⟨m,es,hm,rfl,rfl,hf,ho,hb⟩:=hrel
  have HB:=hdQ hb
  have HO:=hdQ ho
  have HF:=hdQ hf
  clear hb ho hf
  by_cases hlt:m<n
  ·have c2:wr.cell? ⟨g,m,none⟩=some (es[m]'(by rw [HF.out.1];exact hlt)):=by rw [HO.out.cell,List.getElem?_append_left (by rw [HF.out.1];exact hlt),List.getElem?_eq_getElem]
   have c3:wr.frozen? ⟨g,m,none⟩=false:=HO.out.frozen _
   have hp:IntKind.i64.wrap (k+m+1)=k+m+1:=IntWalk.i64_in _ qo
   go_wp2
   go_roundw
   case rel=>exact ⟨m+1,_,qo,qg,qg,HF.out.succ hlt,HO.out.set_left _ (by rw [HF.out.1];exact hlt) _,HB.out.setCell qs _⟩
   case measure=>simp [intOf];omega
  ·obtain rfl:m=n:=by omega
   go_wp2
   go_ret
   exact ⟨rfl,HF.out.all ▸ HO.out,HB.out⟩
theorem L_heldIntS {g n c:Nat} {ds:List Value} {k:Int} (w:World) (h:Own w g 3 (ints (Zby k n)++ds)) (hc:n<=c) (hc':c<=maxLen) (hn:n<=1048576) (h0:0<=k) (h1:k<=1099511627776) :
  Calls Tryz.prog 87 #[.slice (some ⟨g,0,none⟩) n c,.int .i64 k] w λe w'=>e=.returned (.int .i64 (k+n))/\w=w':=by
 unfold maxLen at hc'
 have HO:=hdQ h
 clear h
 go_enter Tryz.func87,Tryz.ntmps87
 go_wp2
 go_loopw [1,5] (λv i wr=>∃ (m:Nat),m<=n/\v=.int .i64 (k+m)/\i=.int .i64 m/\w=wr) (λ_ i _=>n-(intOf i).toNat)
 case atStart=>exact ⟨0,Nat.zero_le _,qs,rfl,rfl⟩
 case round =>
  obtain ⟨m,hm,rfl,rfl,rfl⟩:=hrel
  by_cases hlt:m<n
  ·have c2:w.cell? ⟨g,m,none⟩=some (.int .i64 (k+m)):=by rw [HO.out.cell,List.getElem?_append_left (by simp [Zby];exact hlt),upFrom_at hlt]
   have hp:IntKind.i64.wrap (k+m+1)=k+m+1:=IntWalk.i64_in _ qo
   go_wp2
   go_roundw
   case rel=>exact ⟨m+1,qo,qg,qg,(by trivial)⟩
   case measure=>simp [intOf];omega
  ·obtain rfl:m=n:=by omega
   go_wp2
   go_ret
   exact ⟨rfl,rfl⟩
def gOf:Option Addr->List Nat
 | none=>[]
 | some a=>[a.block]
def Zbu (w:World) (sz:Nat) (A:Option Addr) (n c:Nat) (t:TypeId) (cs:List Value):Prop :=
 cs.length=n*sz/\n<=c/\c<=maxLen/\((A=none/\n=0)∨∃ g ds,A=some ⟨g,0,none⟩/\Own w g t (cs++ds))
section
variable {w w' a:World} {A:Option Addr} {sz n c:Nat} {t:TypeId} {cs:List Value}
theorem Zbu.lt (h:Zbu w sz A n c t cs):∀ x,x∈gOf A->x<w.heap.size:=by
 obtain ⟨_,_,_,⟨rfl,_⟩|⟨g,ds,rfl,ho⟩⟩:=h
 ·intro x hx;cases hx
 ·intro x hx;simp [gOf] at hx;subst hx;exact ho.lt
theorem Zbu.only {B:Nat} {G:List Nat} (h:Zbu a sz A n c t cs) (hO:Only B G a w) (hg:∀ x,x∈gOf A->x<B/\x∉G):Zbu w sz A n c t cs:=by
 obtain ⟨hl,h1,h2,⟨rfl,h0⟩|⟨g,ds,rfl,ho⟩⟩:=h
 ·exact ⟨hl,h1,h2,.inl ⟨rfl,h0⟩⟩
 ·have:=hg g (by simp [gOf])
  exact ⟨hl,h1,h2,.inr ⟨g,ds,rfl,hO.own ho this.1 this.2⟩⟩
theorem Zbu.step (hb:Below w.heap.size w w') (h:Zbu w sz A n c t cs):Zbu w' sz A n c t cs:=h.only (Only.of_below hb []) (λx hx=>⟨h.lt x hx,qs⟩)
theorem Zbu.alloc (h:Zbu w sz A n c t cs) (o:Obj):Zbu (w.alloc o) sz A n c t cs:=h.step ((Below.refl _ _).alloc (Nat.le_refl _) o)
theorem Zbu.drewN (h:Zbu w sz A n c t cs) (k:Nat):Zbu (w.drewN k) sz A n c t cs:=h
theorem Zbu.drew (h:Zbu w sz A n c t cs):Zbu w.drew sz A n c t cs:=h
theorem Zbu.far (h:Zbu w sz A n c t cs) {p:Addr} (hp:∀ x,x∈gOf A->x≠p.block) (u:Value):Zbu (w.setCell p u) sz A n c t cs:=by
 obtain ⟨hl,h1,h2,⟨rfl,h0⟩|⟨g,ds,rfl,ho⟩⟩:=h
 ·exact ⟨hl,h1,h2,.inl ⟨rfl,h0⟩⟩
 ·exact ⟨hl,h1,h2,.inr ⟨g,ds,rfl,ho.far (hp g (by simp [gOf])) u⟩⟩
theorem Zbu.rs (h:Zbu w sz A n c t cs):RS w sz A n c cs:=by
 obtain ⟨hl,h1,h2,⟨rfl,h0⟩|⟨g,ds,rfl,ho⟩⟩:=h
 ·subst h0
  exact ⟨hl,none,c,rfl,h1,h2,λh=>absurd h qo⟩
 ·exact ⟨hl,some ⟨g,0,none⟩,c,rfl,h1,h2,λh=>⟨g,0,rfl,Nat.zero_le _,ho.lt,λj hj=>by rw [Nat.zero_add,ho.cell,List.getElem?_append_left qo]⟩⟩
theorem Zbu.none_ (w:World) (sz:Nat) (t:TypeId):Zbu w sz none 0 0 t []:=⟨qs,Nat.le_refl _,Nat.zero_le _,.inl ⟨rfl,rfl⟩⟩
theorem Zbu.some_ {g:Nat} (h:Own w g t cs) (hl:cs.length=n*sz) (hn:n<=1048576):Zbu w sz (some ⟨g,0,none⟩) n n t cs:=⟨hl,Nat.le_refl _,by unfold maxLen;omega,.inr ⟨g,[],rfl,by rwa [List.append_nil]⟩⟩
end
theorem L_markIntSG {A:Option Addr} {n c:Nat} {cs:List Value} {k:Int} (w:World) (h:Zbu w 1 A n c 3 cs) (hn:n<=1048576) (h0:0<=k) (h1:k<=1099511627776) :
  Calls Tryz.prog 84 #[.slice A n c,.int .i64 k] w λe w'=>e=.returned (.int .i64 (k+n))/\Zbu w' 1 A n c 3 (ints (Zby k n))/\Only w.heap.size (gOf A) w w':=by
 obtain ⟨hl,hc,hc',⟨rfl,h0⟩|⟨g,ds,rfl,ho⟩⟩:=h
 ·subst h0
  refine (L_markIntS0 _).mono ?_
  rintro e w' ⟨rfl,rfl⟩
  exact ⟨qs,⟨by simp [Zby],hc,hc',.inl ⟨rfl,rfl⟩⟩,Only.refl _ _ _⟩
 ·refine (L_markIntS _ ho qo hc hc' hn h0 h1).mono ?_
  rintro e w' ⟨rfl,ho',hO⟩
  exact ⟨rfl,⟨by simp [Zby],hc,hc',.inr ⟨g,ds,rfl,ho'⟩⟩,hO⟩
theorem L_heldIntSG {A:Option Addr} {n c:Nat} {k:Int} (w:World) (h:Zbu w 1 A n c 3 (ints (Zby k n))) (hn:n<=1048576) (h0:0<=k) (h1:k<=1099511627776) :
  Calls Tryz.prog 87 #[.slice A n c,.int .i64 k] w λe w'=>e=.returned (.int .i64 (k+n))/\w=w':=by
 obtain ⟨hl,hc,hc',⟨rfl,h0⟩|⟨g,ds,rfl,ho⟩⟩:=h
 ·subst h0
  refine (L_heldIntS0 _).mono ?_
  rintro e w' ⟨rfl,rfl⟩
  exact ⟨qs,rfl⟩
 ·exact L_heldIntS _ ho hc hc' hn h0 h1
def Zah (w:World) (base:Nat) (e:TypeId) (size:Nat) (A:Option Addr) (n c:Nat) (xs:List Value):Prop:=w.ownsRow base e size (.slice A n c) n xs
section
variable {w w':World} {base:Nat} {e:TypeId} {size n c:Nat} {A:Option Addr} {xs:List Value}
theorem Zah.len (h:Zah w base e size A n c xs):xs.length=n*size:=h.1
theorem Zah.shape (h:Zah w base e size A n c xs):(A=none/\n=0/\c=0)∨∃ g cur,A=some ⟨g,0,none⟩/\base<=g/\w.heap[g]? = some (.cells cur e (0,0))/\n<=c/\c<=maxLen/\cur.size=c*size/\cur.toList.take (n*size)=xs:=by
 rcases h.2 with ⟨h1,h2⟩|⟨g,cap,cur,h1,h2⟩
 ·injection h1 with a b c
  exact .inl ⟨a,h2,c⟩
 ·injection h1 with a b c
  subst c
  exact .inr ⟨g,cur,a,h2⟩
theorem Zah.ge (h:Zah w base e size A n c xs):∀ x,x∈gOf A->base<=x:=by
 intro x hx
 rcases h.shape with ⟨rfl,_,_⟩|⟨g,cur,rfl,hb,_⟩
 ·cases hx
 ·simp [gOf] at hx;omega
theorem Zah.lt (h:Zah w base e size A n c xs):∀ x,x∈gOf A->x<w.heap.size:=by
 intro x hx
 rcases h.shape with ⟨rfl,_,_⟩|⟨g,cur,rfl,hb,hg,_⟩
 ·cases hx
 ·simp [gOf] at hx;subst hx;exact (Array.getElem?_eq_some_iff.1 hg).1
theorem Zah.ownS (h:Zah w base e size A n c xs):Zbu w size A n c e xs:=by
 rcases h.shape with ⟨rfl,rfl,rfl⟩|⟨g,cur,rfl,hb,hg,h1,h2,h3,h4⟩
 ·exact ⟨h.1,Nat.le_refl _,Nat.zero_le _,.inl ⟨rfl,rfl⟩⟩
 ·refine ⟨h.1,h1,h2,.inr ⟨g,cur.toList.drop (n*size),rfl, ?_⟩⟩
  unfold Own
  rw [<- h4,List.take_append_drop]
  exact hg
theorem Zah.rs (h:Zah w base e size A n c xs):RS w size A n c xs:=h.ownS.rs
theorem Zah.keep (h:Zah w base e size A n c xs) (hb:∀ x,x∈gOf A->w'.heap[x]? = w.heap[x]?):Zah w' base e size A n c xs:=by
 refine ⟨h.1, ?_⟩
 rcases h.shape with ⟨rfl,rfl,rfl⟩|⟨g,cur,rfl,hb',hg,rest⟩
 ·exact .inl ⟨rfl,rfl⟩
 ·exact .inr ⟨g,c,cur,rfl,hb',(hb g (by simp [gOf])).trans hg,rest⟩
theorem Zah.step (hb:Below w.heap.size w w') (h:Zah w base e size A n c xs):Zah w' base e size A n c xs:=h.keep (λx hx=>hb.block x (h.lt x hx))
theorem Zah.alloc (h:Zah w base e size A n c xs) (o:Obj):Zah (w.alloc o) base e size A n c xs:=h.step ((Below.refl _ _).alloc (Nat.le_refl _) o)
theorem Zah.drew (h:Zah w base e size A n c xs):Zah w.drew base e size A n c xs:=h
theorem Zah.drewN (h:Zah w base e size A n c xs) (k:Nat):Zah (w.drewN k) base e size A n c xs:=h
theorem Zah.far (h:Zah w base e size A n c xs) {p:Addr} (hp:p.block<base) (u:Value):Zah (w.setCell p u) base e size A n c xs :=
 h.keep (λx hx=>Below.heap_setCell w p u x (by have:=h.ge x hx;omega))
theorem Zah.only {B:Nat} {G:List Nat} (h:Zah w base e size A n c xs) (hO:Only B G w w') (hg:∀ x,x∈gOf A->x<B/\x∉G):Zah w' base e size A n c xs:=h.keep (λx hx=>hO.block x (hg x hx).1 (hg x hx).2)
theorem Zah.mono (h:Zah w base e size A n c xs) {b:Nat} (hb:b<=base):Zah w b e size A n c xs:=by
 refine ⟨h.1, ?_⟩
 rcases h.shape with ⟨rfl,rfl,rfl⟩|⟨g,cur,rfl,hb',hg,rest⟩
 ·exact .inl ⟨rfl,rfl⟩
 ·exact .inr ⟨g,c,cur,rfl,Nat.le_trans hb hb',hg,rest⟩
theorem Zah.nil (w:World) (base:Nat) (e:TypeId) (size:Nat):Zah w base e size none 0 0 []:=⟨by simp,.inl ⟨rfl,rfl⟩⟩
theorem Zah.of_own {g:Nat} (h:Own w g e xs) (hl:xs.length=n*size) (hb:base<=g) (hn:n<=maxLen):Zah w base e size (some ⟨g,0,none⟩) n n xs:=by
 refine ⟨hl,.inr ⟨g,n,⟨xs⟩,rfl,hb,h,Nat.le_refl _,hn,hl, ?_⟩⟩
 rw [<- hl];exact List.take_of_length_le (Nat.le_refl _)
theorem Zah.lit (w:World) (cs:Array Value) (n:Nat) (hs:cs.toList.length=n*size) (hb:base<=w.heap.size) (hn:n<=maxLen):Zah (w.alloc (.cells cs e)) base e size (some ⟨w.heap.size,0,none⟩) n n cs.toList :=
 Zah.of_own (Own.new w e cs) hs hb hn
theorem Zah.lit_at {w:World} {cs:Array Value} {g n:Nat} (hg:g=w.heap.size) (hs:cs.toList.length=n*size) (hb:base<=w.heap.size) (hn:n<=maxLen):Zah (w.alloc (.cells cs e)) base e size (some ⟨g,0,none⟩) n n cs.toList:=by
 subst hg;exact Zah.lit w cs n hs hb hn
end
def Za5 (w:World) (base:Nat) (e:TypeId) (size:Nat) (A:Option Addr) (n:Nat) (xs:List Value) (A':Option Addr) (n' c':Nat) (w':World):Prop :=
 Zah w' base e size A' n' c' xs/\Below base w w'/\w.grownBy w' (A.map (·.block))/\w.heap.size<=w'.heap.size/\(gOf A'=gOf A∨gOf A'=[w.heap.size])
theorem Za5.far {w w':World} {base:Nat} {e:TypeId} {size n n' c':Nat} {A A':Option Addr} {xs:List Value} (h:Za5 w base e size A n xs A' n' c' w') {b:Nat} (hb:b<w.heap.size) (hA:b∉gOf A) :
  (∀ o,w'.cell? ⟨b,o,none⟩=w.cell? ⟨b,o,none⟩)/\(∀ o,w'.frozen? ⟨b,o,none⟩=w.frozen? ⟨b,o,none⟩):=by
 have hx:=h.2.2.1.block b hb (by cases A<;>simp_all [gOf])
 exact ⟨λo=>World.cell?_of_block hx,λo=>World.frozen?_of_block hx⟩
theorem Zah.app {w w':World} {b base:Nat} {e e':TypeId} {size size' n n' c c2 m:Nat} {A A2 A':Option Addr} {xs ys:List Value} (ap:Za5 w base e' size' A2 m ys A' n' c2 w') (h:Zah w b e size A n c xs) (hd:∀ x,x∈gOf A->x∉gOf A2):Zah w' b e size A n c xs :=
 h.keep (λx hx=>ap.2.2.1.block x (h.lt x hx) (by have:=hd x hx;cases A2<;>simp_all [gOf]))
section
variable {P:Program} {w:World}
theorem run_app (t ty:TypeId) (base:Nat) (e:TypeId) (z:Value) (size bytes:Nat) (ht:P.underlying t=some (.slice e)) (hinfo:(P.info? e).map (λi=>(i.zero,i.size,i.bytes))=some (some z,size,bytes)) (hzs:z.cells.size=size) (hsz:0<size)
  {A:Option Addr} {n c:Nat} {xs:List Value} (hown:Zah w base e size A n c xs) {B:Option Addr} {m d:Nat} {ys:List Value} (hr:RS w size B m d ys) (h1:∀ u∈ys,u.oneCell'=true)
  (h63:n+m<=maxLen) (hbytes:(n+m)*bytes<=140737488355328) (hbase:base<=w.heap.size) :
  ∃ A' c' w',(Builtin.append_ #[t,t] ty #[.slice A n c,.slice B m d]).run P w=.ok (.slice A' (n+m) c') w'/\Za5 w base e size A n (xs++ys) A' (n+m) c' w':=by
 obtain ⟨i,hi,hz,hs,hby⟩:=info_parts hinfo
 have hbl:(Value.slice A n c).ownBlock=A.map (·.block):=by cases A<;>rfl
 have hge:∀ k,A.map (·.block)=some k->base<=k:=by
  intro k hk
  cases A with
  | none=>simp at hk
  | some a=>simp at hk;exact hown.ge k (by simp [gOf,hk])
 rcases B with _|ad
 ·have hm0:m=0:=by
   rcases Nat.eq_zero_or_pos m with h|h
   ·exact h
   ·obtain ⟨b,o,hA,_⟩:=hr.open_.2.2 h;cases hA
  subst hm0
  have hy:ys=[]:=List.eq_nil_of_length_eq_zero (by have:=hr.xlen;simpa using this)
  subst hy
  refine ⟨A,c,w, ?_, ?_,Below.refl _ _,⟨rfl,rfl,rfl,Nat.le_refl _,λ_ _ _=>rfl⟩,Nat.le_refl _,.inl rfl⟩
  ·rcases hown.shape with ⟨rfl,rfl,rfl⟩|⟨g,cur,rfl,_,_,hnc,_⟩
   ·simp [Builtin.append_,run_underlying ht,sizeOf,typeInfo,hi,Builtin.lenOf,Builtin.firstCells]
   ·simp [Builtin.append_,run_underlying ht,sizeOf,typeInfo,hi,Builtin.lenOf,Builtin.firstCells,hnc,storeCells]
  ·rw [List.append_nil];exact hown
 ·have hnews:∀ j u,ys[j]? = some u->w.cell? (ad.add j)=some u:=by
   intro j u hu
   have hjl:j<ys.length:=by
    rcases Nat.lt_or_ge j ys.length with h|h
    ·exact h
    ·rw [List.getElem?_eq_none h] at hu;cases hu
   have hx:=hr.xlen
   have hm:0<m:=by
    rcases Nat.eq_zero_or_pos m with h|h
    ·rw [h,Nat.zero_mul] at hx;omega
    ·exact h
   obtain ⟨b,o,hA,_,hcell⟩:=hr.open_.2.2 hm
   injection hA with hA
   subst hA
   have hadd:(Addr.mk b o none).add j=⟨b,o+j,none⟩:=by
    unfold Addr.add;split
    ·rename_i h;subst h;rfl
    ·rfl
   rw [hadd,hcell j (by omega),hu]
  obtain ⟨v',w',hrun,h2,h3,h4,h5⟩:=run_append_own_at (P:=P) w base t ty e i z size bytes ht hi hz hs hby hzs hsz (.slice A n c) n xs hown ad m d ys hr.xlen hnews h1 h63 hbytes hbase
  have hshape:∃ A' c',v'=.slice A' (n+m) c':=by
   rcases h2.2 with ⟨h6,h7⟩|⟨g,cap,cur,h6,_⟩
   ·exact ⟨none,0,by rw [h6,h7]⟩
   ·exact ⟨_,_,h6⟩
  obtain ⟨A',c',rfl⟩:=hshape
  have hbl':(Value.slice A' (n+m) c').ownBlock=A'.map (·.block):=by cases A'<;>rfl
  rw [hbl,hbl'] at h5
  rw [hbl] at h3
  refine ⟨A',c',w',hrun,h2,(Below.refl base w).grown h3 hbase hge,h3,h3.size, ?_⟩
  rcases h5 with h5|h5
  ·left;cases A'<;>cases A<;>simp_all [gOf]
  ·right;cases A'<;>simp_all [gOf]
theorem wpList_app {ops:Array Oper} {rest:List Oper} {o:Oper} {a:Act} {Q:Exit->Act->World->Prop} (hgd:o.guard=none) (s x:Operand) (t:TypeId)
  (ho:o.op=.call { callee:=.builtin .append,args := #[s,x],argTypes := #[t,t] })
  (base:Nat) (e:TypeId) (z:Value) (size bytes:Nat) (ht:P.underlying t=some (.slice e)) (hinfo:(P.info? e).map (λi=>(i.zero,i.size,i.bytes))=some (some z,size,bytes)) (hzs:z.cells.size=size) (hsz:0<size)
  {A:Option Addr} {n c:Nat} {xs:List Value} (hs:a.eval s=.slice A n c) (hown:Zah w base e size A n c xs) {B:Option Addr} {m d:Nat} {ys:List Value} (hx:a.eval x=.slice B m d) (hr:RS w size B m d ys) (h1:∀ u∈ys,u.oneCell'=true)
  (h63:n+m<=maxLen) (hbytes:(n+m)*bytes<=140737488355328) (hbase:base<=w.heap.size)
  (h:∀ A' c' w',Za5 w base e size A n (xs++ys) A' (n+m) c' w'->wpList P ops Q rest (a.put o.dst (.slice A' (n+m) c')) w'):wpList P ops Q (o::rest) a w:=by
 refine wpList_plain hgd λK hK=>?_
 obtain ⟨A',c',w',hrun,hap⟩:=run_app (P:=P) t o.type base e z size bytes ht hinfo hzs hsz hown hr h1 h63 hbytes hbase
 unfold Oper.wp execOp
 simp only [ho,resolve,invoke,builtin,Sem.run_bind,Sem.run_pure,Result.andThen_ok,List.map_toArray,List.map_cons,List.map_nil,hs,hx,hrun]
 exact hK _ _ (h A' c' w' hap)
theorem Zea {ops:Array Oper} {o:Oper} {a:Act} {K:Act->World->Prop} {Q:Exit->Act->World->Prop} {E:Prop} (hgd:o.guard=none) (s x:Operand) (t:TypeId)
  (ho:o.op=.call { callee:=.builtin .append,args := #[s,x],argTypes := #[t,t] })
  (base:Nat) (e:TypeId) (z:Value) (size bytes:Nat) (ht:P.underlying t=some (.slice e)) (hinfo:(P.info? e).map (λi=>(i.zero,i.size,i.bytes))=some (some z,size,bytes)) (hzs:z.cells.size=size) (hsz:0<size)
  {A:Option Addr} {n c:Nat} {xs:List Value} (hs:a.eval s=.slice A n c) (hown:Zah w base e size A n c xs) {B:Option Addr} {m d:Nat} {ys:List Value} (hx:a.eval x=.slice B m d) (hr:RS w size B m d ys) (h1:∀ u∈ys,u.oneCell'=true)
  (h63:n+m<=maxLen) (hbytes:(n+m)*bytes<=140737488355328) (hbase:base<=w.heap.size)
  (h:∀ A' c' w',Za5 w base e size A n (xs++ys) A' (n+m) c' w'->K (a.put o.dst (.slice A' (n+m) c')) w') :
  if Region.wanted o (yielded ops a.tmps)=true then Oper.wp P o a w K Q else E:=by
 have hw:Region.wanted o (yielded ops a.tmps)=true:=by simp [Region.wanted,hgd]
 rw [if_pos hw]
 obtain ⟨A',c',w',hrun,hap⟩:=run_app (P:=P) t o.type base e z size bytes ht hinfo hzs hsz hown hr h1 h63 hbytes hbase
 unfold Oper.wp execOp
 simp only [ho,resolve,invoke,builtin,Sem.run_bind,Sem.run_pure,Result.andThen_ok,List.map_toArray,List.map_cons,List.map_nil,hs,hx,hrun]
 exact h A' c' w' hap
end
theorem Zde (l:List Int):∀ u∈ints l,u.oneCell'=true:=by
 intro u hu
 obtain ⟨x,_,rfl⟩:=List.mem_map.1 hu
 rfl
theorem RS.part {w:World} {size n c:Nat} {A:Option Addr} {xs:List Value} (h:RS w size A n c xs) {b o:Nat} (hA:A=some ⟨b,o,none⟩) (i j d:Nat) (hij:i<=j) (hj:j<=n) (hd:j-i<=d) (hd2:d<=maxLen) :
  RS w size (some ⟨b,o+i*size,none⟩) (j-i) d ((xs.drop (i*size)).take ((j-i)*size)):=by
 obtain ⟨h1,h2,h3⟩:=h.open_
 have hl:=h.xlen
 have hm:i*size+(j-i)*size<=n*size:=by rw [<- Nat.add_mul];exact Nat.mul_le_mul_right _ (by omega)
 refine ⟨by rw [List.length_take,List.length_drop];omega,_,_,rfl,hd,hd2,λhp=>?_⟩
 obtain ⟨b',o',hA',h4,h5⟩:=h3 (by omega)
 rw [hA] at hA'
 injection hA' with hA'
 injection hA' with e1 e2
 subst e1;subst e2
 refine ⟨b,o+i*size,rfl,Nat.zero_le _,h4,λk hk=>?_⟩
 rw [List.getElem?_take_of_lt hk,List.getElem?_drop,Nat.add_assoc,h5 _ (by omega)]
theorem gwx {w':World} {base:Nat} {e:TypeId} {size n c:Nat} {A:Option Addr} {xs:List Value} {p:Prop} (x:p) (h:p->Zah w' base e size A n c xs:=by intro bx;repeat (first|(with_reducible exact bx)|(with_reducible refine Zah.alloc ?_ _)|(with_reducible refine Zah.drewN ?_ _)|(with_reducible refine Zah.drew ?_)|((with_reducible refine Zah.far ?_ ?_ _);rotate_left;(first|omega|(simp<;>omega)))|(with_reducible refine Zah.step (by assumption) ?_))):Zah w' base e size A n c xs:=h x
theorem ltt {w:World} {e:TypeId} {size:Nat} {A:Option Addr} {xs:List Value} (n:Nat) (h:Zah w 0 e size A n n xs:=by repeat (first|(with_reducible refine Zah.drewN ?_ _)|(with_reducible refine Zah.drew ?_)|(refine Zah.lit_at (by simp) (by rfl) (Nat.zero_le _) (by unfold maxLen;omega)))):RS w size A n n xs:=Zah.rs h
theorem wpA {P:Program} {w:World} {ops:Array Oper} {rest:List Oper} {o:Oper} {a:Act} {Q:Exit->Act->World->Prop} {s x:Operand} {t:TypeId} {e:TypeId} {z:Value} {size bytes:Nat} {A:Option Addr} {n c:Nat} {B:Option Addr} {m d:Nat}
  (base:Nat) (ht:P.underlying t=some (.slice e)) (hinfo:(P.info? e).map (λi=>(i.zero,i.size,i.bytes))=some (some z,size,bytes)) (xs ys:List Value) (h1:∀ u∈ys,u.oneCell'=true) (hown:Zah w base e size A n c xs) (hr:RS w size B m d ys)
  (h:∀ A' c' w',Za5 w base e size A n (xs++ys) A' (n+m) c' w'->wpList P ops Q rest (a.put o.dst (.slice A' (n+m) c')) w')
  (hgd:o.guard=none:=by rfl) (ho:o.op=.call { callee:=.builtin .append,args := #[s,x],argTypes := #[t,t] }:=by rfl) (hzs:z.cells.size=size:=by rfl) (hsz:0<size:=by decide) (hs:a.eval s=.slice A n c:=by rfl) (hx:a.eval x=.slice B m d:=by rfl)
  (h63:n+m<=maxLen:=by unfold maxLen;omega) (hbytes:(n+m)*bytes<=140737488355328:=by omega) (hbase:base<=w.heap.size:=by first|omega|(simp<;>omega)):wpList P ops Q (o::rest) a w :=
 wpList_app hgd s x t ho base e z size bytes ht hinfo hzs hsz hs hown hx hr h1 h63 hbytes hbase h
def allIn (l:List Int) (lo hi:Int):Bool:=l.all λx=>inB x lo hi
theorem allIn_take {l:List Int} {lo hi:Int} {k:Nat} (h:allIn (l.take k) lo hi=true) (hk:k<l.length) (e:inB l[k] lo hi=true):allIn (l.take (k+1)) lo hi=true:=by
 unfold allIn at *
 rw [List.take_succ_eq_append_getElem hk,List.all_append,h]
 simp [e]
theorem allIn_false {l:List Int} {lo hi:Int} {k:Nat} (hk:k<l.length) (e:inB l[k] lo hi=false):allIn l lo hi=false:=by
 unfold allIn
 rw [List.all_eq_false]
 exact ⟨l[k],List.getElem_mem hk,by simp [e]⟩
set_option maxHeartbeats 400000 in
theorem I_allWithin (A:Option Addr) (c:Nat) (l:List Int) (lo hi:Int) (w:World) (h:RS w 1 A l.length c (ints l)) :
  Calls Tryz.prog 138 #[.slice A l.length c,.int .i64 lo,.int .i64 hi] w λe w'=>e=.returned (.bool (allIn l lo hi))/\w=w':=by
 obtain ⟨hn,hc,hr⟩:=h.open_
 unfold maxLen at hc
 clear h
 have HR:=hdQ hr
 clear hr
 go_enter Tryz.func138,Tryz.ntmps138
 go_wp2
 go_loop [8,11] (λ_ i=>∃ k:Nat,k<=l.length/\i=.int .i64 k/\allIn (l.take k) lo hi=true) (λ_ i=>l.length-(intOf i).toNat)
 case atStart=>exact ⟨0,Nat.zero_le _,rfl,rfl⟩
 case round =>
  obtain ⟨k,hk,rfl,ht⟩:=hrel
  have HT:=hdQ ht
  clear ht
  by_cases hlt:k<l.length
  ·obtain ⟨b,o,rfl,hbh,hcell⟩:=HR.out qo
   have c1:w.cell? ⟨b,o+k,none⟩=some (.int .i64 l[k]):=by rw [hcell k qo,Zdf hlt]
   clear hcell
   by_cases hin:inB l[k] lo hi=true
   ·go_wp2_with (go_at_call 77;refine (I_within _ _ _ _).mono ?_;rintro e w' ⟨rfl,rfl⟩)
    go_round
    case rel=>exact ⟨k+1,qo,qg,allIn_take HT.out hlt hin⟩
    case measure=>simp [intOf];omega
   ·have hin':inB l[k] lo hi=false:=by simpa using hin
    go_wp2_with (go_at_call 77;refine (I_within _ _ _ _).mono ?_;rintro e w' ⟨rfl,rfl⟩)
    go_ret
    exact ⟨Zad (allIn_false hlt hin').symm,rfl⟩
  ·go_wp2
   go_ret
   obtain rfl:k=l.length:=qo
   exact ⟨Zad (by have:=HT.out;rw [List.take_of_length_le (Nat.le_refl _)] at this;exact this.symm),rfl⟩
theorem Zap {P:Program} {f:FuncId} {args:Array Value} {w:World} {n:Nat} {v:Value}
  (h:Calls P f args (w.drewN n) λe w'=>e=.returned v/\w.drewN n=w'):Calls P f args (w.drewN n) λe w''=>e=.returned v/\∃ m,w''=w.drewN m :=
 h.mono λ_ _ ⟨he,hm⟩=>⟨he,n,hm.symm⟩
theorem Zfz {P:Program} {f:FuncId} {args:Array Value} {w:World} {v:Value}
  (h:Calls P f args w λe w'=>e=.returned v/\w=w'):Calls P f args w λe w''=>e=.returned v/\∃ m,w''=w.drewN m :=
 h.mono λ_ _ ⟨he,hm⟩=>⟨he,0,hm.symm⟩
def Zbo (log:Int):Int:=if log=0 then 1 else if log=1 then 2 else if log=2 then 4 else if log=3 then 8 else 16
theorem log_cases {log:Int} (h:inB log 0 4=true):log=0∨log=1∨log=2∨log=3∨log=4:=by have:=Zbk h;omega
def Zak (log:Int) (l:List Int):Bool:=inB log 0 4&&(decide ((l.length:Int)=Zbo log*Zbo log)&&allIn l 0 256)
end Go.Proofs.YticdknjoapdmeaaGreatDoor
namespace Go.Proofs.YticdknjoapdmeaaGreatDoor
set_option maxRecDepth 100000
open Go.RowKit Go.Lib
abbrev Zam (ls:List (List UInt8)):List Value:=ls.map str
theorem Zfd {ls:List (List UInt8)} {k:Nat} (h:k<ls.length):(Zam ls)[k]? = some (str ls[k]):=by simp [h]
theorem Za6 (a:List (List UInt8)) (b:List UInt8):Zam a++Zam [b]=Zam (a++[b]):=qs
theorem Zbn (ls:List (List UInt8)):∀ u∈Zam ls,u.oneCell'=true:=by
 intro u hu
 obtain ⟨x,_,rfl⟩:=List.mem_map.1 hu
 rfl
theorem T.infoString:(Tryz.prog.info? 9).map (λi=>(i.zero,i.size,i.bytes))=some (some (.string ByteArray.empty),1,16):=kr
theorem join_take {ls:List (List UInt8)} {sep:List UInt8} {k:Nat} (h:k<ls.length) (hk:0<k):join (ls.take (k+1)) sep=join (ls.take k) sep++sep++ls[k]:=by
 cases ls with
 | nil=>cases h
 | cons a t =>
  obtain ⟨j,rfl⟩:∃ j,k=j+1:=⟨k-1,qo⟩
  have hj:j<t.length:=by simpa using h
  simp only [List.take_succ_cons,join_cons,List.getElem_cons_succ]
  rw [joinTail_take_succ sep t j t[j] (List.getElem?_eq_getElem hj)]
  simp [List.append_assoc]
theorem join_take_one {ls:List (List UInt8)} {sep:List UInt8} (h:0<ls.length):join (ls.take 1) sep=ls[0]:=by
 cases ls with
 | nil=>cases h
 | cons a t=>simp [join_one]
theorem join_take_le (ls:List (List UInt8)) (sep:List UInt8) (k:Nat):(join (ls.take k) sep).length<=(join ls sep).length:=by
 cases ls with
 | nil=>simp
 | cons a t =>
  cases k with
  | zero=>simp [join_nil]
  | succ k =>
   rw [List.take_succ_cons,join_cons,join_cons,List.length_append,List.length_append]
   have:(joinTail sep (t.take k)).length<=(joinTail sep t).length:=by
    have e:joinTail sep t=joinTail sep (t.take k)++joinTail sep (t.drop k):=by
     unfold joinTail
     rw [<- List.flatten_append,<- List.map_append,List.take_append_drop]
    rw [e,List.length_append];omega
   omega
theorem S_Join {A:Option Addr} {c:Nat} {ls:List (List UInt8)} {sep:List UInt8} (w:World) (h:RS w 1 A ls.length c (Zam ls)) (hlen:(join ls sep).length<=140737488355328) (hsep:sep.length<=1000) :
  Calls Tryz.prog 22 #[.slice A ls.length c,str sep] w λe w'=>e=.returned (str (join ls sep))/\w=w':=by
 obtain ⟨hn,hc,hr⟩:=h.open_
 unfold maxLen at hc
 clear h
 have HR:=hdQ hr
 clear hr
 have HL:=hdQ (λk=>Nat.le_trans (join_take_le ls sep k) hlen)
 clear hlen
 go_enter Tryz.func22,Tryz.ntmps22
 go_wp2_with fail
 go_loop [5,6,7,10] (λv _ _ i=>∃ k:Nat,k<=ls.length/\i=.int .i64 k/\v=str (join (ls.take k) sep)) (λ_ _ _ i=>ls.length-(RowKit.intOf i).toNat)
 case atStart=>exact ⟨0,Nat.zero_le _,rfl,rfl⟩
 case round =>
  obtain ⟨k,hk,rfl,rfl⟩:=hrel
  by_cases hlt:k<ls.length
  ·obtain ⟨b,o,rfl,hbh,hcell⟩:=HR.out qo
   have c1:w.cell? ⟨b,o+k,none⟩=some (str ls[k]):=by rw [hcell k qo,Zfd hlt]
   have hL1:=HL.out (k+1)
   clear hcell
   by_cases hk0:k=0
   ·subst hk0
    have HJ:=qh (join (ls.take (0+1)) sep=ls[0]) (join_take_one hlt)
    have hL2:¬ 9223372036854775807<ls[0].length:=by have:=HJ.out;rw [this] at hL1;omega
    have HJ0:=qh (join (ls.take 0) sep=[]) rfl
    generalize hx:ls[0]=x at *
    rw [HJ0.out]
    have c1':w.cell? ⟨b,o,none⟩=some (str x):=c1
    clear hL1 hx c1
    rw [show ((0:Nat):Int)=0 from rfl] at *
    go_wp2_with fail
    go_round
    case rel=>exact ⟨1,qo,qg,by rw [show (1:Nat)=0+1 from rfl,HJ.out];first|rfl|exact congrArg Value.string (Zab [] x)⟩
    case measure=>exact qn
   ·have HJ:=qh (join (ls.take (k+1)) sep=join (ls.take k) sep++sep++ls[k]) (join_take hlt qo)
    have hk1:(0:Int)<k:=qo
    generalize hx:ls[k]=x at *
    generalize hy:join (ls.take k) sep=y at *
    have hL3:y.length+sep.length+x.length<=140737488355328:=by have:=hL1;rw [HJ.out,List.length_append,List.length_append] at this;exact this
    have hL2:¬ 9223372036854775807<y.length+sep.length:=qo
    have hL4:¬ 9223372036854775807<y.length+sep.length+x.length:=qo
    have HX:=hdQ hx
    have HY:=hdQ hy
    clear hL1 hx hy hk0 hL3
    go_wp2_with fail
    go_round
    case rel=>exact ⟨k+1,qo,qg,by rw [HJ.out];show Value.string (({ data:=y.toArray }:ByteArray)++{ data:=sep.toArray }++{ data:=x.toArray })=_;rw [Zab,Zab]⟩
    case measure=>exact qn
  ·obtain rfl:k=ls.length:=by omega
   have HJ:=qh (join (ls.take ls.length) sep=join ls sep) (by rw [List.take_length])
   rw [HJ.out]
   go_wp2_with fail
   go_ret
   exact ⟨rfl,rfl⟩
theorem I_Join {A:Option Addr} {c:Nat} {ls:List (List UInt8)} {sep:List UInt8} (w:World) (h:RS w 1 A ls.length c (Zam ls)) (hpos:0<ls.length) (hn47:ls.length<=1000000) (hlen:(join ls sep).length<=140737488355328) :
  Calls Tryz.prog 45 #[.slice A ls.length c,str sep] w λe w'=>e=.returned (str (join ls sep))/\Below w.heap.size w w':=by
 obtain ⟨hn,hc,hr⟩:=h.open_
 obtain ⟨b,o,rfl,hbh,hcell⟩:=hr qo
 have e1:(ls.map λx=>(⟨x.toArray⟩:ByteArray)).map (λx=>x.data.toList)=ls:=by
  rw [List.map_map];simp [Function.comp_def]
 have HC:=qh (CB_ Tryz.prog 160 #[.slice (some ⟨b,o,none⟩) ls.length c,str sep] w (str (join ls sep))) (by
  have h0:=Tryz.strings_Join b o c (ls.map λx=>(⟨x.toArray⟩:ByteArray)) ⟨sep.toArray⟩ w (λj x hj=>by
   rw [List.getElem?_map] at hj
   cases hg:ls[j]? with
   | none=>rw [hg] at hj;cases hj
   | some y =>
    rw [hg] at hj
    obtain rfl:=Option.some.inj hj
    have hj':=(List.getElem?_eq_some_iff.1 hg)
    obtain ⟨hj1,hj2⟩:=hj'
    rw [hcell j qo,Zfd hj1,hj2]) hbh (by rw [List.length_map];omega) (by rw [List.length_map];omega) (by rw [e1];exact hlen)
  rw [e1,List.length_map] at h0
  exact h0)
 have hJA:Calls Tryz.prog 98 #[str sep,.slice (some ⟨b,o,none⟩) ls.length c] w λe w'=>e=.returned (str (join ls sep))/\Below w.heap.size w w':=by
  clear hcell hr e1 h hlen
  go_enter Tryz.func98,Tryz.ntmps98
  go_wp2_with fail
  refine HC.out.mono ?_
  rintro e w' ⟨rfl,hb⟩
  go_wp2_with fail
  go_ret
  exact ⟨rfl,hb⟩
 have HJ:=hdQ hJA
 clear hcell hr e1 h hlen hJA HC
 go_enter Tryz.func45,Tryz.ntmps45
 go_wp2_with fail
 refine HJ.out.mono ?_
 rintro e w' ⟨rfl,hb⟩
 go_wp2_with fail
 go_ret
 exact ⟨rfl,hb⟩
def fmtL (l:List Int):List UInt8:=join (l.map fmtI) [44]
theorem joinTail_len (r:List (List UInt8)) (B:Nat) (h:∀ x∈r,x.length<=B):(joinTail [44] r).length<=r.length*(B+1):=by
 induction r with
 | nil=>simp [joinTail]
 | cons a t ih =>
  have h1:=h a qs
  have h2:=ih (λx hx=>h x (by simp [hx]))
  have e:joinTail [44] (a::t)=[44]++a++joinTail [44] t:=by simp [joinTail]
  rw [e,List.length_append,List.length_append,List.length_cons]
  simp only [List.length_cons,List.length_nil]
  rw [Nat.succ_mul]
  omega
theorem Zf9 (l:List Int):(fmtL l).length<=l.length*12:=by
 unfold fmtL
 cases l with
 | nil=>simp [join_nil]
 | cons a t =>
  rw [List.map_cons,join_cons,List.length_append]
  have h1:=Zb0 a
  have h2:=joinTail_len (t.map fmtI) 11 (λx hx=>by obtain ⟨y,_,rfl⟩:=List.mem_map.1 hx;exact Zb0 y)
  rw [List.length_map] at h2
  rw [List.length_cons]
  omega
theorem Ze9 {A:Option Addr} {c:Nat} {l:List Int} (w:World) (h:RS w 1 A l.length c (ints l)) (hv:∀ x∈l,Zcg x) (hpos:0<l.length) (hlen:l.length<=1000) :
  Calls Tryz.prog 117 #[.slice A l.length c] w λe w'=>e=.returned (str (fmtL l))/\Below w.heap.size w w':=by
 have H0:=hdQ h
 have HV:=hdQ hv
 clear h hv
 have hl0:¬ (l.length:Int)=0:=qo
 have hlb:((l.length:Int)==0)=false:=by simpa using hl0
 have HG0:=qh (Zah (w.alloc (.cells #[] 9)) w.heap.size 9 1 (some ⟨w.heap.size,0,none⟩) 0 0 []) (Zah.lit w #[] 0 rfl (Nat.le_refl _) (Nat.zero_le _))
 go_enter Tryz.func117,Tryz.ntmps117
 go_wp2_with fail
 go_loopw [3,5,9] (λo _ i wr=>∃ (k:Nat) (B:Option Addr) (d:Nat),k<=l.length/\i=.int .i64 k/\o=.slice B k d/\Zah wr w.heap.size 9 1 B k d (Zam ((l.take k).map fmtI))/\Below w.heap.size w wr) (λ_ _ i _=>l.length-(RowKit.intOf i).toNat)
 case atStart=>exact ⟨0,_,_,Nat.zero_le _,rfl,rfl,HG0.out,bll⟩
 case round =>
  obtain ⟨k,B,d,hk,rfl,rfl,hg,hb⟩:=hrel
  have HG:=hdQ hg
  have HB:=hdQ hb
  have HR:=hdQ (RS.step hb H0.out)
  have hz:=hb.size
  clear hg hb HG0
  by_cases hlt:k<l.length
  ·obtain ⟨b,off,rfl,hbh,hcell⟩:=HR.out.open_.2.2 qo
   have c1:wr.cell? ⟨b,off+k,none⟩=some (.int .i64 l[k]):=by rw [hcell k qo,Zdf hlt]
   have hin:=HV.out _ (List.getElem_mem hlt)
   have HS:=qh ((l.take (k+1)).map fmtI=(l.take k).map fmtI++[fmtI l[k]]) (by rw [List.take_succ_eq_append_getElem hlt,List.map_append];rfl)
   have i2:(k:Int)<l.length:=qo
   clear hcell
   generalize hx:l[k]=x at *
   have hem:(fmtI x).isEmpty=false:=by
    cases hf:fmtI x with
    | nil=>exact absurd hf (fmtI_ne hin)
    | cons=>rfl
   have HX:=hdQ hx
   clear hx hin
   go_wp2_with fail
   refine (Zcj _ _).mono ?_
   rintro e wA ⟨rfl,hbA⟩
   have bA:Below w.heap.size w wA:=bll
   have zA:=hbA.size
   (try simp at zA)
   have HGA:=qh (Zah wA w.heap.size 9 1 B k d (Zam ((l.take k).map fmtI))) (Zah.step hbA (gwx HG.out))
   clear hbA
   go_wp2_with fail
   refine (Zcj _ _).mono ?_
   rintro e wB ⟨rfl,hbB⟩
   have bB:Below w.heap.size w wB:=bll
   have zB:=hbB.size
   (try simp at zB)
   have HGB:=qh (Zah wB w.heap.size 9 1 B k d (Zam ((l.take k).map fmtI))) (Zah.step hbB (gwx HGA.out))
   clear hbB
   go_wp2_with (at_builtin;refine wpA (w.heap.size) Tryz.underlying50 T.infoString (Zam ((l.take k).map fmtI)) (Zam [fmtI x]) (Zbn _) ?_ ?_ ?_;exact (gwx HGB.out);exact (ltt 1);rintro A' c' w2 gA;have g1:=gA.1;have g2:=gA.2.1;rw [Za6,<- HS.out] at g1;have HG1:=hdQ g1;have HB1:=qh (Below w.heap.size w w2) (Below.trans (Below.alloc bB qo _) g2);clear gA g1 g2)
   go_roundw
   case rel=>exact ⟨k+1,_,_,qo,qg,rfl,HG1.out,HB1.out⟩
   case measure=>exact qn
  ·obtain rfl:k=l.length:=by omega
   have HGL:=qh (Zah wr w.heap.size 9 1 B l.length d (Zam (l.map fmtI))) (by have:=HG.out;rw [List.take_length] at this;exact this)
   have hll:(l.map fmtI).length=l.length:=List.length_map _
   have HRS:=qh (RS wr 1 B (l.map fmtI).length d (Zam (l.map fmtI))) (by rw [hll];exact HGL.out.rs)
   have HJL:=qh ((join (l.map fmtI) [44]).length<=140737488355328) (by have h1:(join (l.map fmtI) [44]).length<=l.length*12:=Zf9 l;omega)
   have HJ:=qh (∀ wx,wx=wr->CB_ Tryz.prog 22 #[.slice B l.length d,.string ⟨#[44]⟩] wx (str (fmtL l))) (λwx hx=>by
    subst hx
    have h0:=(S_Join (sep:=[44]) _ HRS.out HJL.out qd)
    rw [hll] at h0
    exact h0.mono (λe w' h=>⟨h.1,by obtain ⟨_,rfl⟩:=h;exact Below.refl _ _⟩))
   clear hll hl0
   have hl0:¬ (l.length:Int)=0:=qo
   go_wp2_with fail
   refine (HJ.out _ rfl).mono ?_
   rintro e w' ⟨rfl,hb⟩
   go_wp2_with fail
   go_ret
   exact ⟨rfl,Below.step hb HB.out HB.out.size⟩
theorem Zfc {A:Option Addr} {c:Nat} {l:List Int} (w:World) (h:RS w 1 A l.length c (ints l)) (hv:∀ x∈l,Zcg x) (hpos:0<l.length) (hlen:l.length<=1000) (ht:Tab w) :
  Calls Tryz.prog 91 #[.slice A l.length c] w λe w'=>e=.returned (str (fmtL l))/\Below w.heap.size w w':=by
 have H0:=hdQ h
 have HV:=hdQ hv
 have HT:=hdQ ht
 clear h hv ht
 have hl0:¬ (l.length:Int)=0:=qo
 have hlb:((l.length:Int)==0)=false:=by simpa using hl0
 have HG0:=qh (Zah (w.alloc (.cells #[] 9)) w.heap.size 9 1 (some ⟨w.heap.size,0,none⟩) 0 0 []) (Zah.lit w #[] 0 rfl (Nat.le_refl _) (Nat.zero_le _))
 go_enter Tryz.func91,Tryz.ntmps91
 go_wp2_with fail
 go_loopw [3,5,6,13] (λo _ _ i wr=>∃ (k:Nat) (B:Option Addr) (d:Nat),k<=l.length/\i=.int .i64 k/\o=.slice B k d/\Zah wr w.heap.size 9 1 B k d (Zam ((l.take k).map fmtI))/\Below w.heap.size w wr) (λ_ _ _ i _=>l.length-(RowKit.intOf i).toNat)
 case atStart=>exact ⟨0,_,_,Nat.zero_le _,rfl,rfl,HG0.out,bll⟩
 case round =>
  obtain ⟨k,B,d,hk,rfl,rfl,hg,hb⟩:=hrel
  have HG:=hdQ hg
  have HB:=hdQ hb
  have HR:=hdQ (RS.step hb H0.out)
  have hz:=hb.size
  clear hg hb HG0
  by_cases hlt:k<l.length
  ·obtain ⟨b,off,rfl,hbh,hcell⟩:=HR.out.open_.2.2 qo
   have c1:wr.cell? ⟨b,off+k,none⟩=some (.int .i64 l[k]):=by rw [hcell k qo,Zdf hlt]
   have hin:=HV.out _ (List.getElem_mem hlt)
   have HS:=qh ((l.take (k+1)).map fmtI=(l.take k).map fmtI++[fmtI l[k]]) (by rw [List.take_succ_eq_append_getElem hlt,List.map_append];rfl)
   have i2:(k:Int)<l.length:=qo
   clear hcell
   generalize hx:l[k]=x at *
   have hem:(fmtI x).isEmpty=false:=by
    cases hf:fmtI x with
    | nil=>exact absurd hf (fmtI_ne hin)
    | cons=>rfl
   have HX:=hdQ hx
   clear hx hin
   go_wp2_with fail
   refine (Zdy _ _ (HT.out.step (by first|exact HB.out|exact bll))).mono ?_
   rintro e wA ⟨rfl,hbA⟩
   have bA:Below w.heap.size w wA:=bll
   have zA:=hbA.size
   (try simp at zA)
   have HGA:=qh (Zah wA w.heap.size 9 1 B k d (Zam ((l.take k).map fmtI))) (Zah.step hbA (gwx HG.out))
   clear hbA
   go_wp2_with (at_builtin;refine wpA (w.heap.size) Tryz.underlying50 T.infoString (Zam ((l.take k).map fmtI)) (Zam [fmtI x]) (Zbn _) ?_ ?_ ?_;exact (gwx HGA.out);exact (ltt 1);rintro A' c' w2 gA;have g1:=gA.1;have g2:=gA.2.1;rw [Za6,<- HS.out] at g1;have HG1:=hdQ g1;have HB1:=qh (Below w.heap.size w w2) (Below.trans (Below.alloc bA qo _) g2);clear gA g1 g2)
   go_roundw
   case rel=>exact ⟨k+1,_,_,qo,qg,rfl,HG1.out,HB1.out⟩
   case measure=>exact qn
  ·obtain rfl:k=l.length:=by omega
   have HGL:=qh (Zah wr w.heap.size 9 1 B l.length d (Zam (l.map fmtI))) (by have:=HG.out;rw [List.take_length] at this;exact this)
   have hll:(l.map fmtI).length=l.length:=List.length_map _
   have HRS:=qh (RS wr 1 B (l.map fmtI).length d (Zam (l.map fmtI))) (by rw [hll];exact HGL.out.rs)
   have HJL:=qh ((join (l.map fmtI) [44]).length<=140737488355328) (by have h1:(join (l.map fmtI) [44]).length<=l.length*12:=Zf9 l;omega)
   have HJ:=qh (∀ wx,wx=wr->CB_ Tryz.prog 45 #[.slice B l.length d,.string ⟨#[44]⟩] wx (str (fmtL l))) (λwx hx=>by
    subst hx
    have h0:=(I_Join (sep:=[44]) _ HRS.out qo qo HJL.out)
    rw [hll] at h0
    exact h0.mono (λe w' h=>h))
   clear hll hl0
   have hl0:¬ (l.length:Int)=0:=qo
   go_wp2_with fail
   refine (HJ.out _ rfl).mono ?_
   rintro e w' ⟨rfl,hb⟩
   go_wp2_with fail
   go_ret
   exact ⟨rfl,Below.step hb HB.out HB.out.size⟩
end Go.Proofs.YticdknjoapdmeaaGreatDoor
namespace Go.Proofs.YticdknjoapdmeaaGreatDoor
set_option maxRecDepth 512
open Go.RowKit
end Go.Proofs.YticdknjoapdmeaaGreatDoor
namespace Go.Proofs.YticdknjoapdmeaaGreatDoor
open Go.ChangeShapes Go.WideShapes Go.ChangeAt Go.RowKit
abbrev Zcc (x0:Int) (s0:Value):Value:=.agg #[.int .i64 x0,s0]
set_option maxHeartbeats 400000 in
theorem L_eqTexture {x0:Int} {A0:Option Addr} {p0:Nat} {l0:List Int} {B0:Option Addr} {d0:Nat} (w:World) (h0:RS w 1 A0 l0.length p0 (ints l0)) (k0:RS w 1 B0 l0.length d0 (ints l0)) :
  Calls Tryz.prog 29 #[(Zcc x0 (.slice A0 l0.length p0)),(Zcc x0 (.slice B0 l0.length d0))] w λe w'=>e=.returned (.bool true)/\Below w.heap.size w w':=by
 go_enter Tryz.func29,Tryz.ntmps29
 go_wp2_with fail
 refine (L_eqIntS _ _ _ _ _ _ _ rsx rsx).mono ?_
 rintro e w' ⟨rfl,hb⟩;have hz:=hb.size;(try simp at hz);obtain ⟨c0,f0,z0⟩:=bxx hb (w.heap.size);obtain ⟨c1,f1,z1⟩:=bxx hb (w.heap.size+1)
 go_wp2
 go_ret
 exact ⟨rfl,bll⟩
end Go.Proofs.YticdknjoapdmeaaGreatDoor
namespace Go.Proofs.YticdknjoapdmeaaGreatDoor
open Go.RowKit
theorem L_eqCamera (x0:Int) (x1:Int) (x2:Int) (x3:Int) (x4:Bool) (x5:Int) (x6:Int) (w:World) :
  Calls Tryz.prog 28 #[(.agg #[.int .i64 x0,.int .i64 x1,.int .i64 x2,.int .i64 x3,.bool x4,.int .i64 x5,.int .i64 x6]),(.agg #[.int .i64 x0,.int .i64 x1,.int .i64 x2,.int .i64 x3,.bool x4,.int .i64 x5,.int .i64 x6])] w λe w'=>e=.returned (.bool true)/\Below w.heap.size w w':=by
 go_enter Tryz.func28,Tryz.ntmps28
 go_wp2
 go_ret
 exact ⟨rfl,(by repeat (first|exact Below.refl _ _|refine Below.alloc ?_ (by simp<;>omega) _|refine Below.setCell ?_ (by simp<;>omega) _))⟩
theorem L_eqVec (x0:Int) (x1:Int) (x2:Int) (w:World) :
  Calls Tryz.prog 250 #[(.agg #[.int .i64 x0,.int .i64 x1,.int .i64 x2]),(.agg #[.int .i64 x0,.int .i64 x1,.int .i64 x2])] w λe w'=>e=.returned (.bool true)/\Below w.heap.size w w':=by
 go_enter Tryz.func250,Tryz.ntmps250
 go_wp2
 go_ret
 exact ⟨rfl,(by repeat (first|exact Below.refl _ _|refine Below.alloc ?_ (by simp<;>omega) _|refine Below.setCell ?_ (by simp<;>omega) _))⟩
end Go.Proofs.YticdknjoapdmeaaGreatDoor
namespace Go.Proofs.YticdknjoapdmeaaGreatDoor
open Go.ChangeShapes Go.WideShapes Go.ChangeAt Go.RowKit
def rowOf {α:Type} (f:α->List Value) (l:List α):List Value:=l.flatMap f
theorem rowOf_len {α:Type} {f:α->List Value} {s:Nat} (hf:∀ a,(f a).length=s) (l:List α):(rowOf f l).length=l.length*s:=by
 unfold rowOf
 induction l with
 | nil=>simp
 | cons a l ih=>rw [List.flatMap_cons,List.length_append,hf,ih,List.length_cons,Nat.succ_mul,Nat.add_comm]
theorem rowOf_at {α:Type} {f:α->List Value} {s:Nat} (hf:∀ a,(f a).length=s):∀ (l:List α) (k j:Nat) (hk:k<l.length) (_:j<s),(rowOf f l)[k*s+j]? = (f l[k])[j]?
 | [],k,j,hk,_=>absurd hk qs
 | a::l,0,j,hk,hj=>by
  show (a::l |>.flatMap f)[0*s+j]? = _
  rw [List.flatMap_cons,List.getElem?_append_left (by rw [hf];omega),Nat.zero_mul,Nat.zero_add]
  rfl
 | a::l,k+1,j,hk,hj=>by
  show (a::l |>.flatMap f)[(k+1)*s+j]? = _
  rw [List.flatMap_cons,List.getElem?_append_right (by rw [hf,Nat.succ_mul];omega),hf,Nat.succ_mul,show k*s+s+j-s=k*s+j by omega]
  exact rowOf_at hf l k j (by simpa using hk) hj
def FillR (s:Nat) (xs cs:List Value) (n k:Nat):Prop:=cs.length=n*s/\∀ j,j<k*s->cs[j]? = xs[j]?
theorem FillR.succ {s n k:Nat} {xs cs cs':List Value} (h:FillR s xs cs n k) (hl:cs'.length=cs.length) (h1:∀ j,j<k*s->cs'[j]? = cs[j]?) (h2:∀ j,j<s->cs'[k*s+j]? = xs[k*s+j]?):FillR s xs cs' n (k+1):=by
 refine ⟨hl.trans h.1,λj hj=>?_⟩
 rw [Nat.succ_mul] at hj
 by_cases e:j<k*s
 ·rw [h1 j e,h.2 j e]
 ·have:=h2 (j-k*s) qo
  rwa [show k*s+(j-k*s)=j by omega] at this
theorem FillR.whole {s n:Nat} {xs cs:List Value} (h:FillR s xs cs n n) (hx:xs.length=n*s):cs=xs:=by
 apply List.ext_getElem?
 intro j
 by_cases hj:j<n*s
 ·exact h.2 j hj
 ·rw [List.getElem?_eq_none (by rw [h.1];omega),List.getElem?_eq_none qo]
end Go.Proofs.YticdknjoapdmeaaGreatDoor
namespace Go.Proofs.YticdknjoapdmeaaGreatDoor
open Go.RowKit
def MarkedC (xs cs:List Value) (i:Nat):Prop:=cs.length=xs.length/\∀ j,j<i->cs[j]? = xs[j]?
theorem MarkedC.succ {xs cs:List Value} {i:Nat} {v:Value} (h:MarkedC xs cs i) (hv:xs[i]? = some v):MarkedC xs (cs.set i v) (i+1):=by
 have hi:i<xs.length:=by
  rcases Nat.lt_or_ge i xs.length with h|h
  ·exact h
  ·rw [List.getElem?_eq_none h] at hv;cases hv
 refine ⟨by rw [List.length_set];exact h.1,λj hj=>?_⟩
 by_cases e:i=j
 ·subst e;rw [List.getElem?_set_self (by rw [h.1];exact hi),hv]
 ·rw [List.getElem?_set_ne e];exact h.2 j qo
theorem MarkedC.all {xs cs:List Value} {i:Nat} (h:MarkedC xs cs i) (hi:xs.length<=i):cs=xs:=by
 apply List.ext_getElem?
 intro j
 by_cases hj:j<xs.length
 ·exact h.2 j qo
 ·rw [List.getElem?_eq_none (by rw [h.1];omega),List.getElem?_eq_none qo]
def MadeRow (t:TypeId) (sz n:Nat) (cs:List Value) (w:World) (e:Ending) (w':World):Prop :=
 ∃ A c,e=.returned (.slice A n c)/\Zbu w' sz A n c t cs/\(∀ x,x∈gOf A->w.heap.size<=x)/\Below w.heap.size w w'
theorem Zah.made {w w':World} {t:TypeId} {sz n c:Nat} {A:Option Addr} {cs:List Value} {base:Nat} (h:Zah w' base t sz A n c cs) (hb:w.heap.size<=base) (hB:Below w.heap.size w w'):MadeRow t sz n cs w (.returned (.slice A n c)) w' :=
 ⟨_,_,rfl,h.ownS,λx hx=>Nat.le_trans hb (h.ge x hx),hB⟩
theorem MadeRow.none_ (w:World) (t:TypeId) (sz:Nat) {w':World} (hB:Below w.heap.size w w'):MadeRow t sz 0 [] w (.returned (.slice none 0 0)) w' :=
 ⟨none,0,rfl,Zbu.none_ _ _ _,λx hx=>absurd hx (by simp [gOf]),hB⟩
def Zd9 (w:World) (b:Nat):Nat->List Value->Prop
 | _,[]=>True
 | i,v::l=>w.cell? ⟨b,i,none⟩=some v/\Zd9 w b (i+1) l
def Box (w:World) (b:Nat) (cs:List Value):Prop:=b<w.heap.size/\Zd9 w b 0 cs
theorem Zd9.same {w w':World} {b:Nat} (h:∀ o,w'.cell? ⟨b,o,none⟩=w.cell? ⟨b,o,none⟩):∀ (i:Nat) (cs:List Value),Zd9 w b i cs->Zd9 w' b i cs
 | _,[],_=>trivial
 | i,v::l,hc=>⟨(h i).trans hc.1,Zd9.same h (i+1) l hc.2⟩
theorem Box.step {w w':World} {b:Nat} {cs:List Value} (hb:Below w.heap.size w w') (h:Box w b cs):Box w' b cs:=⟨Nat.lt_of_lt_of_le h.1 hb.size,Zd9.same (λo=>hb.cell (p:=⟨b,o,none⟩) h.1) 0 cs h.2⟩
theorem Box.only {w w':World} {B:Nat} {G:List Nat} {b:Nat} {cs:List Value} (hO:Only B G w w') (h:Box w b cs) (hB:b<B) (hG:b∉G):Box w' b cs:=⟨Nat.lt_of_lt_of_le h.1 hO.size,Zd9.same (hO.cell b hB hG).1 0 cs h.2⟩
theorem Zd9.of_own {w:World} {b:Nat} {t:TypeId} {es:List Value} (h:Own w b t es):∀ (i:Nat) (cs:List Value),(∀ j,j<cs.length->es[i+j]? = cs[j]?)->Zd9 w b i cs
 | _,[],_=>trivial
 | i,v::l,hc=>⟨by rw [h.cell];have:=hc 0 qs;simpa using this,Zd9.of_own h (i+1) l (λj hj=>by have:=hc (j+1) (by simpa using hj);rw [Nat.add_assoc,Nat.add_comm 1 j];simpa using this)⟩
theorem Box.of_own {w:World} {b:Nat} {t:TypeId} {cs:List Value} (h:Own w b t cs):Box w b cs:=⟨h.lt,Zd9.of_own h 0 cs (λj _=>by rw [Nat.zero_add])⟩
theorem Box.lt {w:World} {b:Nat} {cs:List Value} (h:Box w b cs):b<w.heap.size:=h.1
theorem Box.mk1 {w:World} {b:Nat} {v0:Value} (h:b<w.heap.size) (h0:w.cell? ⟨b,0,none⟩=some v0):Box w b [v0]:=⟨h,h0,trivial⟩
theorem Box.open4 {w:World} {b:Nat} {v0 v1 v2 v3:Value} (h:Box w b [v0,v1,v2,v3]):b<w.heap.size/\w.cell? ⟨b,0,none⟩=some v0/\w.cell? ⟨b,1,none⟩=some v1/\w.cell? ⟨b,2,none⟩=some v2/\w.cell? ⟨b,3,none⟩=some v3:=⟨h.1,h.2.1,h.2.2.1,h.2.2.2.1,h.2.2.2.2.1⟩
theorem Box.mk4 {w:World} {b:Nat} {v0 v1 v2 v3:Value} (h:b<w.heap.size) (h0:w.cell? ⟨b,0,none⟩=some v0) (h1:w.cell? ⟨b,1,none⟩=some v1) (h2:w.cell? ⟨b,2,none⟩=some v2) (h3:w.cell? ⟨b,3,none⟩=some v3):Box w b [v0,v1,v2,v3]:=⟨h,h0,h1,h2,h3,trivial⟩
set_option maxRecDepth 100000
abbrev vVec (x y z:Int):Value:=.agg #[.int .i64 x,.int .i64 y,.int .i64 z]
def cl (n:Int):Int:=clampF n (-1000000) 1000000
theorem cl_rng (n:Int) : -1000000<=cl n/\cl n<=1000000:=by unfold cl clampF;split<;>(try split)<;>omega
def Zav (x y z:Int):Bool:=decide (x=cl x)&&(decide (y=cl y)&&decide (z=cl z))
theorem S_l02N (n:Int) (w:World) :
  Calls Tryz.prog 263 #[.int .i64 n] w λe w'=>e=.returned (.int .i64 (cl n))/\w=w':=by
 go_enter Tryz.func263,Tryz.ntmps263
 go_wp2_with (first|(go_at_call 285;refine (S_Clamp _ _ _ _).mono ?_;rintro e w' ⟨rfl,rfl⟩)|fail)
 go_ret
 exact ⟨rfl,rfl⟩
theorem I_clampC (n:Int) (w:World) :
  Calls Tryz.prog 220 #[.int .i64 n] w λe w'=>e=.returned (.int .i64 (cl n))/\w=w':=by
 go_enter Tryz.func220,Tryz.ntmps220
 go_wp2_with (first|(go_at_call 221;refine (I_Clamp _ _ _ _).mono ?_;rintro e w' ⟨rfl,rfl⟩)|fail)
 go_ret
 exact ⟨rfl,rfl⟩
theorem S_l02V (x y z:Int) (w:World) :
  Calls Tryz.prog 218 #[vVec x y z] w λe w'=>e=.returned (vVec (cl x) (cl y) (cl z))/\Below w.heap.size w w':=by
 go_enter Tryz.func218,Tryz.ntmps218
 go_wp2_with fail
 go_region_held3 (λw'=>w'.cell? ⟨w.heap.size,0,none⟩=some (.int .i64 x)/\w'.cell? ⟨w.heap.size,1,none⟩=some (.int .i64 y)/\w'.cell? ⟨w.heap.size,2,none⟩=some (.int .i64 z))
  (first|((try dsimp only);refine ⟨?_, ?_, ?_⟩<;>(go_simp;done))|go_keep)
  (first|(go_at_call 263;(with_reducible refine (S_l02N _ _).mono ?_);rintro e w' ⟨rfl,rfl⟩)|fail)
 all_goals
  go_wp2
  exact bodyPost_ret (v:=vVec (cl x) (cl y) (cl z)) (by simp [results,Tryz.results218,go_sem, *]) rfl ⟨rfl,bll⟩
theorem I_eachClamp (x y z:Int) (w:World) :
  Calls Tryz.prog 219 #[vVec x y z,.func (.func 220) #[] #[]] w λe w'=>e=.returned (vVec (cl x) (cl y) (cl z))/\Below w.heap.size w w':=by
 go_enter Tryz.func219,Tryz.ntmps219
 go_wp2_with fail
 go_region_held3 (λw'=>w'.cell? ⟨w.heap.size,0,none⟩=some (.int .i64 x)/\w'.cell? ⟨w.heap.size,1,none⟩=some (.int .i64 y)/\w'.cell? ⟨w.heap.size,2,none⟩=some (.int .i64 z))
  (first|((try dsimp only);refine ⟨?_, ?_, ?_⟩<;>(go_simp;done))|go_keep)
  (first|(go_at_call 220;(with_reducible refine (I_clampC _ _).mono ?_);rintro e w' ⟨rfl,rfl⟩)|fail)
 all_goals
  go_wp2
  exact bodyPost_ret (v:=vVec (cl x) (cl y) (cl z)) (by simp [results,Tryz.results219,go_sem, *]) rfl ⟨rfl,bll⟩
theorem I_clamped (x y z:Int) (w:World) :
  Calls Tryz.prog 166 #[vVec x y z] w λe w'=>e=.returned (vVec (cl x) (cl y) (cl z))/\Below w.heap.size w w':=by
 go_enter Tryz.func166,Tryz.ntmps166
 go_wp2_with (first|(go_at_call 219;refine (I_eachClamp _ _ _ _).mono ?_;rintro e w' ⟨rfl,hb⟩;have hz:=hb.size;(try simp at hz);obtain ⟨c0,f0,z0⟩:=bxx hb (w.heap.size);obtain ⟨c1,f1,z1⟩:=bxx hb (w.heap.size+1))|fail)
 exact bodyPost_ret (v:=vVec (cl x) (cl y) (cl z)) (by simp [results,Tryz.results166,go_sem, *]) rfl ⟨rfl,bll⟩
end Go.Proofs.YticdknjoapdmeaaGreatDoor
namespace Go.Proofs.YticdknjoapdmeaaGreatDoor
set_option maxRecDepth 512
open Go.ChangeShapes Go.WideShapes Go.ChangeAt Go.RowKit
abbrev Zbl (a b c d:Int) (e:Bool) (f g:Int):Value:=.agg #[.int .i64 a,.int .i64 b,.int .i64 c,.int .i64 d,.bool e,.int .i64 f,.int .i64 g]
def Zaz (a b c d f g:Int):Bool:=inB a 1 12&&(inB b 1 12&&(inB c 1 65536&&(inB d 1 1000000&&(inB f 0 64&&inB g 0 1000000))))
theorem validCam_true {a b c d f g:Int} (h:Zaz a b c d f g=true):(1<=a/\a<=12)/\(1<=b/\b<=12)/\(1<=c/\c<=65536)/\(1<=d/\d<=1000000)/\(0<=f/\f<=64)/\(0<=g/\g<=1000000):=by
 simp only [Zaz,Bool.and_eq_true] at h
 obtain ⟨h1,h2,h3,h4,h5,h6⟩:=h
 exact ⟨Zbk h1,Zbk h2,Zbk h3,Zbk h4,Zbk h5,Zbk h6⟩
theorem Zdj {a b c d:Int} {e:Bool} {f g:Int} (w:World) :
  Calls Tryz.prog 116 #[Zbl a b c d e f g] w λr w'=>r=.returned (.bool (Zaz a b c d f g))/\Below w.heap.size w w':=by
 go_enter Tryz.func116,Tryz.ntmps116
 go_wp2_with (go_at_call 119;refine (S_in _ _ _ _).mono ?_;rintro e w' ⟨rfl,rfl⟩)
 all_goals
  go_ret
  exact ⟨Zad (by simp_all [Zaz]),bll⟩
theorem Zdn {a b c d:Int} {e:Bool} {f g:Int} (w:World) :
  Calls Tryz.prog 75 #[Zbl a b c d e f g] w λr w'=>r=.returned (.bool (Zaz a b c d f g))/\Below w.heap.size w w':=by
 go_enter Tryz.func75,Tryz.ntmps75
 go_wp2_with (go_at_call 77;refine (I_within _ _ _ _).mono ?_;rintro e w' ⟨rfl,rfl⟩)
 all_goals
  go_ret
  exact ⟨Zad (by simp_all [Zaz]),bll⟩
end Go.Proofs.YticdknjoapdmeaaGreatDoor
namespace Go.Proofs.YticdknjoapdmeaaGreatDoor
open Go.RowKit
theorem S_l15Size {log:Int} (h:inB log 0 4=true) (w:World):Calls Tryz.prog 170 #[.int .i64 log] w λe w'=>e=.returned (.int .i64 (Zbo log))/\w=w':=by
 have key:∀ m:Nat,m<=4->log=m->Calls Tryz.prog 170 #[.int .i64 log] w λe w'=>e=.returned (.int .i64 ((2 ^ m:Nat):Int))/\w=w':=by
  intro m hm hl
  subst hl
  go_enter Tryz.func170,Tryz.ntmps170
  go_wp2
  go_loop [0,3] (λt n=>∃ j:Nat,j<=m/\t=.int .i64 j/\n=.int .i64 ((2 ^ (m-j):Nat):Int)) (λt _=>(intOf t).toNat)
  case atStart=>exact ⟨m,Nat.le_refl _,rfl,qs⟩
  case round =>
   obtain ⟨j,hj,rfl,rfl⟩:=hrel
   have hp:2 ^ (m-j)<=2 ^ 4:=Nat.pow_le_pow_right qo qo
   have hs:j≠0->2 ^ (m-(j-1))=2*2 ^ (m-j):=λh=>by rw [show m-(j-1)=(m-j)+1 by omega,Nat.pow_succ];omega
   have HS:=hdQ hs
   clear hs
   by_cases hlt:0<j
   ·generalize 2 ^ (m-j)=q at *
    have h0:(0:Int)<j:=qo
    go_wp2
    go_round
    case rel=>exact ⟨j-1,qo,by congr 1;omega,by rw [HS.out qo];congr 1⟩
    case measure=>simp [intOf];omega
   ·obtain rfl:j=0:=by omega
    go_wp2
    go_ret
    exact ⟨ret_int qs,rfl⟩
 rcases log_cases h with rfl|rfl|rfl|rfl|rfl
 ·exact key 0 qo rfl
 ·exact key 1 qo rfl
 ·exact key 2 qo rfl
 ·exact key 3 qo rfl
 ·exact key 4 qo rfl
theorem Zc7 (k:Nat) (hk:k<=8):Op.shift .shl .i64 1 .i64 (k:Int)=pure (.int .i64 (2 ^ k)):=by
 rcases (by omega:k=0∨k=1∨k=2∨k=3∨k=4∨k=5∨k=6∨k=7∨k=8) with rfl|rfl|rfl|rfl|rfl|rfl|rfl|rfl|rfl<;>rfl
theorem side_rng (log:Int):1<=Zbo log/\Zbo log<=16/\1<=Zbo log*Zbo log/\Zbo log*Zbo log<=256:=by
 unfold Zbo;repeat' split
 all_goals omega
theorem validTex_cases (log:Int) (n:Nat):(inB log 0 4=true/\(((n:Int) != Zbo log*Zbo log)=false/\((n:Int)==Zbo log*Zbo log)=true)/\Hid ((n:Int)=Zbo log*Zbo log))∨(inB log 0 4=true/\(((n:Int) != Zbo log*Zbo log)=true/\((n:Int)==Zbo log*Zbo log)=false)/\Hid (¬ (n:Int)=Zbo log*Zbo log))∨inB log 0 4=false:=by
 cases h:inB log 0 4
 ·exact .inr (.inr rfl)
 ·by_cases hn:(n:Int)=Zbo log*Zbo log
  ·exact .inl ⟨rfl,⟨by simp [hn],by simp [hn]⟩,hn⟩
  ·exact .inr (.inl ⟨rfl,⟨by simp [hn],by simp [hn]⟩,hn⟩)
theorem S_IsValidTexture {log:Int} {A:Option Addr} {c:Nat} {l:List Int} (w:World) (h:RS w 1 A l.length c (ints l)) :
  Calls Tryz.prog 118 #[Zcc log (.slice A l.length c)] w λe w'=>e=.returned (.bool (Zak log l))/\Below w.heap.size w w':=by
 have hlen:=h.len
 unfold maxLen at hlen
 have H0:=hdQ h
 clear h
 obtain ⟨s1,s2,s3,s4⟩:=side_rng log
 have hp:IntKind.i64.wrap (Zbo log*Zbo log)=Zbo log*Zbo log:=IntWalk.i64_in _ qo
 rcases validTex_cases log l.length with ⟨q1,⟨q2,q2'⟩,q3⟩|⟨q1,⟨q2,q2'⟩,q3⟩|q1
 case inr.inr =>
  have HE:Hid (Zak log l=false):=by show _=_;unfold Zak;rw [q1];rfl
  clear hp
  go_enter Tryz.func118,Tryz.ntmps118
  go_wp2_with fail
  go_quiet ((go_at_call 119;exact Zap (S_in _ _ _ _)))
  go_wp2
  go_ret
  exact ⟨Zad HE.out.symm,bll⟩
 case inr.inl =>
  have HE:Hid (Zak log l=false):=by show _=_;unfold Zak;rw [q1];simp [q3.out]
  go_enter Tryz.func118,Tryz.ntmps118
  go_wp2_with fail
  go_quiet ((first|(go_at_call 119;exact Zap (Zca q1 _))|(go_at_call 170;exact Zap (S_l15Size q1 _))))
  go_wp2
  go_ret
  exact ⟨Zad HE.out.symm,bll⟩
 case inl =>
  have HE:Hid (Zak log l=allIn l 0 256):=by show _=_;unfold Zak;rw [q1];simp [q3.out]
  go_enter Tryz.func118,Tryz.ntmps118
  go_wp2_with fail
  go_quiet ((first|(go_at_call 119;exact Zap (Zca q1 _))|(go_at_call 170;exact Zap (S_l15Size q1 _))))
  clear hp
  go_wp2_with fail
  go_loop [4,25] (λ_ i=>∃ k:Nat,k<=l.length/\i=.int .i64 k/\allIn (l.take k) 0 256=true) (λ_ i=>l.length-(intOf i).toNat)
  case atStart=>exact ⟨0,Nat.zero_le _,rfl,rfl⟩
  case round =>
   obtain ⟨k,hk,rfl,ht⟩:=hrel
   have HT:=hdQ ht
   clear ht
   by_cases hlt:k<l.length
   ·obtain ⟨b,o,rfl,hbh,hcell⟩:=H0.out.open_.2.2 qo
    have c1:w.cell? ⟨b,o+k,none⟩=some (.int .i64 l[k]):=by rw [hcell k qo,Zdf hlt]
    have hne:¬ b=w.heap.size:=qo
    clear hcell
    by_cases hin:inB l[k] 0 256=true
    ·go_wp2_with (go_at_call 119;refine (S_in _ _ _ _).mono ?_;rintro e w' ⟨rfl,rfl⟩)
     go_round
     case rel=>exact ⟨k+1,qo,qg,allIn_take HT.out hlt hin⟩
     case measure=>simp [intOf];omega
    ·have hin':inB l[k] 0 256=false:=by simpa using hin
     have E1:Hid (Zak log l=false):=HE.out.trans (allIn_false hlt hin')
     clear hin
     go_wp2_with (go_at_call 119;refine (S_in _ _ _ _).mono ?_;rintro e w' ⟨rfl,rfl⟩)
     go_ret
     exact ⟨Zad E1.out.symm,bll⟩
   ·have E1:Hid (Zak log l=true):=by
     obtain rfl:k=l.length:=qo
     have:=HT.out
     rw [List.take_of_length_le (Nat.le_refl _)] at this
     exact HE.out.trans this
    go_wp2
    go_ret
    exact ⟨Zad E1.out.symm,bll⟩
theorem Zcv {log:Int} {A:Option Addr} {c:Nat} {l:List Int} (w:World) (h:RS w 1 A l.length c (ints l)) :
  Calls Tryz.prog 76 #[Zcc log (.slice A l.length c)] w λe w'=>e=.returned (.bool (Zak log l))/\Below w.heap.size w w':=by
 have hlen:=h.len
 unfold maxLen at hlen
 have HA:=hdQ (RS.alloc h (.cells #[.int .i64 log,.slice A l.length c] 26))
 clear h
 rcases validTex_cases log l.length with ⟨q1,⟨q2,q2'⟩,q3⟩|⟨q1,⟨q2,q2'⟩,q3⟩|q1
 case inr.inr =>
  have HE:Hid (Zak log l=false):=by show _=_;unfold Zak;rw [q1];rfl
  go_enter Tryz.func76,Tryz.ntmps76
  go_wp2_with fail
  go_quiet ((go_at_call 77;exact Zap (Zbx q1 _)))
  go_wp2
  go_ret
  exact ⟨Zad HE.out.symm,bll⟩
 case inr.inl =>
  have HE:Hid (Zak log l=false):=by show _=_;unfold Zak;rw [q1];simp [q3.out]
  have HQ:=hdQ q2'
  clear q2 q2'
  rcases log_cases q1 with rfl|rfl|rfl|rfl|rfl
  all_goals
   have hq:=HQ.out
   simp only [show Zbo 0*Zbo 0=(1:Int) from rfl,show Zbo 1*Zbo 1=(4:Int) from rfl,show Zbo 2*Zbo 2=(16:Int) from rfl,show Zbo 3*Zbo 3=(64:Int) from rfl,show Zbo 4*Zbo 4=(256:Int) from rfl] at hq
   have hw0:IntKind.i64.wrap 0=0:=rfl
   have g0:=Zc7 0 qo;have g1:=Zc7 1 qo;have g2:=Zc7 2 qo;have g3:=Zc7 3 qo;have g4:=Zc7 4 qo;have g6:=Zc7 6 qo;have g8:=Zc7 8 qo
   simp at g0 g1 g2 g3 g4 g6 g8
   go_enter Tryz.func76,Tryz.ntmps76
   go_wp2_with fail
   go_quiet ((first|(go_at_call 77;exact Zap (Zbx q1 _))|(go_at_call 138;exact Zap (I_allWithin _ _ _ _ _ _ HA.out))))
   go_wp2
   go_ret
   exact ⟨Zad HE.out.symm,bll⟩
 case inl =>
  have HE:Hid (Zak log l=allIn l 0 256):=by show _=_;unfold Zak;rw [q1];simp [q3.out]
  have HQ:=hdQ q2'
  clear q2 q2'
  rcases log_cases q1 with rfl|rfl|rfl|rfl|rfl
  all_goals
   have hq:=HQ.out
   simp only [show Zbo 0*Zbo 0=(1:Int) from rfl,show Zbo 1*Zbo 1=(4:Int) from rfl,show Zbo 2*Zbo 2=(16:Int) from rfl,show Zbo 3*Zbo 3=(64:Int) from rfl,show Zbo 4*Zbo 4=(256:Int) from rfl] at hq
   have hw0:IntKind.i64.wrap 0=0:=rfl
   have g0:=Zc7 0 qo;have g1:=Zc7 1 qo;have g2:=Zc7 2 qo;have g3:=Zc7 3 qo;have g4:=Zc7 4 qo;have g6:=Zc7 6 qo;have g8:=Zc7 8 qo
   simp at g0 g1 g2 g3 g4 g6 g8
   go_enter Tryz.func76,Tryz.ntmps76
   go_wp2_with fail
   go_quiet ((first|(go_at_call 77;exact Zap (Zbx q1 _))|(go_at_call 138;exact Zap (I_allWithin _ _ _ _ _ _ HA.out))))
   go_wp2
   go_ret
   exact ⟨Zad HE.out.symm,bll⟩
end Go.Proofs.YticdknjoapdmeaaGreatDoor
namespace Go.Proofs.YticdknjoapdmeaaGreatDoor
open Go.RowKit Go.Lib
abbrev Za1:=Nat->Int
abbrev Zdz:=Za1×Za1×Int×Int
def vecT (x y z:Int):List UInt8:=fmtL [x,y,z]
def Za8 (p:Za1):Bool:=Zav (p 0) (p 1) (p 2)&&(Zav (p 3) (p 4) (p 5)&&(Zav (p 6) (p 7) (p 8)&&Zav (p 9) (p 10) (p 11)))
def patL (p:Za1):List (List UInt8):=[vecT (p 0) (p 1) (p 2),vecT (p 3) (p 4) (p 5),vecT (p 6) (p 7) (p 8),vecT (p 9) (p 10) (p 11)]
def Zeb (p:Za1):List UInt8:=join (patL p) [32]
def camT (a b c d:Int) (e:Bool) (f g:Int):List UInt8:=fmtL [a,b,c,d,if e then 1 else 0,f,g]
def texT (log:Int) (l:List Int):List UInt8:=fmtI log++[58]++fmtL l
def flatT (l:List UInt8):List UInt8:=l.map λb=>if b=10 then 32 else b
def rateB (r:Int):Bool:=decide (r=1∨r=2∨r=4∨r=8)
def sideB (r:Int):Bool:=decide (r=1∨r=2∨r=4)
def surfOk (n:Int) (x:Zdz):Bool:=Za8 x.1&&(Za8 x.2.1&&(decide (0<=x.2.2.1)&&(decide (x.2.2.1<n)&&rateB x.2.2.2)))
structure EScene where
 a:Int
 b:Int
 c:Int
 d:Int
 e:Bool
 f:Int
 g:Int
 log:Int
 tex:List Int
 ps:List Zae
 ss:List Zdz
 side:Int
def Zcy (n:Int) (ss:List Zdz) (k:Nat):Bool:=(ss.take k).all (surfOk n)
def Zel (ps:List Zae) (k:Nat):Bool:=(ps.take k).all Zbd
def Za0 (s:EScene):Bool:=Zaz s.a s.b s.c s.d s.f s.g&&(Zak s.log s.tex&&(inB s.ps.length 1 3&&(decide (s.ss.length<=5)&&(sideB s.side&&(Zel s.ps s.ps.length&&Zcy s.ps.length s.ss s.ss.length)))))
def surfL (x:Zdz):List (List UInt8):=[[115,117,114,102,97,99,101],fmtI x.2.2.1,fmtI x.2.2.2,Zeb x.1,Zeb x.2.1]
def surfT (x:Zdz):List UInt8:=[115,117,114,102,97,99,101,32]++fmtI x.2.2.1++[32]++fmtI x.2.2.2++[32]++Zeb x.1++[32]++Zeb x.2.1
def shadT (p:Zae):List UInt8:=[115,104,97,100,101,114,32]++flatT (Zem p)
def headL (s:EScene):List (List UInt8):=[[99,97,109,101,114,97,32]++camT s.a s.b s.c s.d s.e s.f s.g,[116,101,120,116,117,114,101,32]++texT s.log s.tex,[115,105,100,101,32]++fmtI s.side]
def Zaw (s:EScene):List (List UInt8):=headL s++s.ps.map shadT++s.ss.map surfT
def Zbj (s:EScene):List UInt8:=if Za0 s then join (Zaw s) [10]++[10] else []
theorem surfT_join (x:Zdz):join (surfL x) [32]=surfT x:=by
 simp [surfL,surfT,join_cons,joinTail]
theorem surfsTo_succ {n:Int} {ss:List Zdz} {k:Nat} (h:k<ss.length):Zcy n ss (k+1)=(Zcy n ss k&&surfOk n ss[k]):=by
 unfold Zcy
 rw [List.take_succ_eq_append_getElem h,List.all_append];simp
theorem shadTo_succ {ps:List Zae} {k:Nat} (h:k<ps.length):Zel ps (k+1)=(Zel ps k&&Zbd ps[k]):=by
 unfold Zel
 rw [List.take_succ_eq_append_getElem h,List.all_append];simp
theorem shadTo_no {ps:List Zae} {k:Nat} (h:k<ps.length) (hc:Zbd ps[k]=false):Zel ps ps.length=false:=by
 unfold Zel
 rw [List.take_length,List.all_eq_false]
 exact ⟨_,List.getElem_mem h,by simp [hc]⟩
theorem surfsTo_no {n:Int} {ss:List Zdz} {k:Nat} (h:k<ss.length) (hc:surfOk n ss[k]=false):Zcy n ss ss.length=false:=by
 unfold Zcy
 rw [List.take_length,List.all_eq_false]
 exact ⟨_,List.getElem_mem h,by simp [hc]⟩
theorem Zfk {ps:List Zae} {k:Nat} (h:Zel ps ps.length=true) (hk:k<ps.length):Zbd ps[k]=true:=by
 unfold Zel at h
 rw [List.take_length,List.all_eq_true] at h
 exact h _ (List.getElem_mem hk)
theorem surfsTo_at {n:Int} {ss:List Zdz} {k:Nat} (h:Zcy n ss ss.length=true) (hk:k<ss.length):surfOk n ss[k]=true:=by
 unfold Zcy at h
 rw [List.take_length,List.all_eq_true] at h
 exact h _ (List.getElem_mem hk)
theorem Zco {p:Zae} (h:Zbd p=true):Zat p=true:=by
 unfold Zbd at h
 simp only [Bool.and_eq_true] at h
 exact h.1.1.1.1
structure SceneIs (s:EScene):Prop where
 cam:Zaz s.a s.b s.c s.d s.f s.g=true
 tex:Zak s.log s.tex=true
 np:1<=s.ps.length/\s.ps.length<=3
 ns:s.ss.length<=5
 side:sideB s.side=true
 shad:Zel s.ps s.ps.length=true
 surf:Zcy s.ps.length s.ss s.ss.length=true
theorem sceneIs {s:EScene} (h:Za0 s=true):SceneIs s:=by
 unfold Za0 at h
 simp only [Bool.and_eq_true,decide_eq_true_eq] at h
 obtain ⟨h1,h2,h3,h4,h5,h6,h7⟩:=h
 have:=Zbk h3
 exact ⟨h1,h2,⟨qo,qo⟩,h4,h5,h6,h7⟩
theorem vecT_len (x y z:Int):(vecT x y z).length<=36:=Zf9 [x,y,z]
theorem join1_len (sep:UInt8) (ts:List (List UInt8)):(join ts [sep]).length<=(ts.map List.length).sum+(ts.length-1):=by
 cases ts with
 | nil=>simp [join_nil]
 | cons a t =>
  rw [join_cons,List.length_append,List.map_cons,List.sum_cons,List.length_cons]
  have:∀ r:List (List UInt8),(joinTail [sep] r).length=(r.map List.length).sum+r.length:=by
   intro r
   induction r with
   | nil=>simp [joinTail]
   | cons b s ih =>
    have e:joinTail [sep] (b::s)=[sep]++b++joinTail [sep] s:=by simp [joinTail]
    rw [e,List.length_append,List.length_append,ih,List.map_cons,List.sum_cons,List.length_cons]
    simp only [List.length_cons,List.length_nil]
    omega
  rw [this]
  omega
theorem Zez (p:Za1):(Zeb p).length<=147:=by
 have h:=join1_len 32 (patL p)
 have h1:=vecT_len (p 0) (p 1) (p 2)
 have h2:=vecT_len (p 3) (p 4) (p 5)
 have h3:=vecT_len (p 6) (p 7) (p 8)
 have h4:=vecT_len (p 9) (p 10) (p 11)
 unfold Zeb
 simp only [patL,List.map_cons,List.map_nil,List.sum_cons,List.sum_nil,List.length_cons,List.length_nil] at h
 simp only [patL]
 omega
theorem surfT_len (x:Zdz):(surfT x).length<=328:=by
 have h1:=Zb0 x.2.2.1
 have h2:=Zb0 x.2.2.2
 have h3:=Zez x.1
 have h4:=Zez x.2.1
 simp only [surfT,List.length_append,List.length_cons,List.length_nil]
 omega
theorem Zes (l:List UInt8):(flatT l).length=l.length:=by simp [flatT]
theorem shadT_len {p:Zae} (h:Zat p=true):(shadT p).length<=51187:=by
 have:=progT_len h
 simp only [shadT,List.length_append,List.length_cons,List.length_nil,Zes]
 omega
theorem texT_len {log:Int} {l:List Int} (h:l.length<=256):(texT log l).length<=3084:=by
 have h1:=Zb0 log
 have h2:=Zf9 l
 simp only [texT,List.length_append,List.length_cons,List.length_nil]
 omega
theorem camT_len (a b c d:Int) (e:Bool) (f g:Int):(camT a b c d e f g).length<=84:=Zf9 _
theorem Zd8 {log:Int} {l:List Int} (h:Zak log l=true):inB log 0 4=true/\1<=l.length/\l.length<=256/\allIn l 0 256=true:=by
 unfold Zak at h
 simp only [Bool.and_eq_true,decide_eq_true_eq] at h
 obtain ⟨h1,h2,h3⟩:=h
 have:=side_rng log
 exact ⟨h1,qo,qo,h3⟩
theorem sum_le_mul {l:List (List UInt8)} {B:Nat} (h:∀ x∈l,x.length<=B):(l.map List.length).sum<=l.length*B:=by
 induction l with
 | nil=>simp
 | cons a t ih =>
  have h1:=h a qs
  have h2:=ih (λx hx=>h x (by simp [hx]))
  rw [List.map_cons,List.sum_cons,List.length_cons,Nat.succ_mul]
  omega
theorem lines_mem {s:EScene} (h:SceneIs s):∀ x∈Zaw s,x.length<=60000:=by
 intro x hx
 unfold Zaw headL at hx
 simp only [List.mem_append,List.mem_cons,List.not_mem_nil,or_false,List.mem_map] at hx
 rcases hx with (((rfl|rfl|rfl)|⟨p,hp,rfl⟩)|⟨y,hy,rfl⟩)
 ·have:=camT_len s.a s.b s.c s.d s.e s.f s.g
  simp only [List.length_append,List.length_cons,List.length_nil];omega
 ·have:=texT_len (log:=s.log) (Zd8 h.tex).2.2.1
  simp only [List.length_append,List.length_cons,List.length_nil];omega
 ·have:=Zb0 s.side
  simp only [List.length_append,List.length_cons,List.length_nil];omega
 ·obtain ⟨i,hi,rfl⟩:=List.getElem_of_mem hp
  have:=shadT_len (Zco (Zfk h.shad hi));omega
 ·have:=surfT_len y;omega
theorem lines_len {s:EScene} (h:SceneIs s):(Zaw s).length<=11:=by
 have h1:=h.np
 have h2:=h.ns
 simp only [Zaw,headL,List.length_append,List.length_cons,List.length_nil,List.length_map]
 omega
theorem lines_join {s:EScene} (h:SceneIs s):(join (Zaw s) [10]).length<=660010:=by
 have h1:=join1_len 10 (Zaw s)
 have h2:=sum_le_mul (lines_mem h)
 have h3:=lines_len h
 have:(Zaw s).length*60000<=660000:=qo
 omega
def splitB (b:UInt8):List UInt8->List (List UInt8)
 | []=>[[]]
 | x::l=>if x=b then []::splitB b l else match splitB b l with
  | []=>[[x]]
  | h::t=>(x::h)::t
theorem Zdr {b:UInt8}:∀ {u:List UInt8},(∀ x∈u,x≠b)->splitB b u=[u]
 | [],_=>rfl
 | x::u,h=>by
  have ih:=Zdr (b:=b) (u:=u) (λy hy=>h y (by simp [hy]))
  unfold splitB
  rw [if_neg (h x (by simp)),ih]
theorem splitB_cut {b:UInt8}:∀ {u:List UInt8} (v:List UInt8),(∀ x∈u,x≠b)->splitB b (u++b::v)=u::splitB b v
 | [],v,_=>by
  rw [List.nil_append]
  conv=>lhs;unfold splitB
  rw [if_pos rfl]
 | x::u,v,h=>by
  have ih:=splitB_cut (b:=b) (u:=u) v (λy hy=>h y (by simp [hy]))
  rw [List.cons_append]
  conv=>lhs;unfold splitB
  rw [if_neg (h x (by simp)),ih]
theorem drop_split {l:List UInt8} {f i:Nat} (h:f<=i) (hi:i<l.length):l.drop f=(l.take i).drop f++l[i]::l.drop (i+1):=by
 conv=>lhs;rw [<- List.take_append_drop i l]
 rw [List.drop_append_of_le_length (by simp;omega),List.drop_eq_getElem_cons hi]
theorem Zdq (l:List UInt8) (a b:Nat):({ data:=l.toArray }:ByteArray).extract a b=⟨((l.take b).drop a).toArray⟩:=by
 apply ByteArray.ext
 rw [ByteArray.data_extract]
 apply Array.ext'
 simp [List.extract_eq_take_drop,List.drop_take]
theorem Zc3 {b:UInt8}:∀ {l p:List UInt8},p∈splitB b l->p.length<=l.length
 | [],p,h=>by
  rw [show splitB b []=[[]] from rfl] at h
  simp at h;subst h;simp
 | x::l,p,h=>by
  have ih:=λ{q:List UInt8} (hq:q∈splitB b l)=>Zc3 (b:=b) hq
  unfold splitB at h
  by_cases hx:x=b
  ·rw [if_pos hx] at h
   rcases List.mem_cons.1 h with rfl|h
   ·simp
   ·have:=ih h;simp;omega
  ·rw [if_neg hx] at h
   cases hs:splitB b l with
   | nil=>rw [hs] at h;simp at h;subst h;simp
   | cons a t =>
    rw [hs] at h
    simp only at h
    rcases List.mem_cons.1 h with rfl|h
    ·have:=ih (q:=a) (by rw [hs];simp)
     simp;omega
    ·have:=ih (q:=p) (by rw [hs];simp [h])
     simp;omega
theorem Zb1 (b:UInt8) (l:List UInt8):0<(splitB b l).length:=by
 cases l with
 | nil=>simp [splitB]
 | cons x l =>
  unfold splitB
  split
  ·simp
  ·split<;>simp
theorem Zbe (b:UInt8):∀ l:List UInt8,(splitB b l).length<=l.length+1
 | []=>by simp [splitB]
 | x::l=>by
  have ih:=Zbe b l
  have h0:=Zb1 b l
  unfold splitB
  split
  ·simp;omega
  ·split
   ·simp
   ·rename_i h t e;rw [e] at ih;simp at ih ⊢;omega
set_option maxRecDepth 100000
def Zc1 (ls:List (List UInt8)) (w:World) (e:Ending) (w':World):Prop :=
 ∃ A c,e=.returned (.slice A ls.length c)/\RS w' 1 A ls.length c (Zam ls)/\(∀ x,x∈gOf A->w.heap.size<=x)/\Below w.heap.size w w'
theorem idx_one (b x:UInt8):indexByte [b] ((x.toNat:Int).toNat.toUInt8)=if x=b then 0 else -1:=by
 have e:(x.toNat:Int).toNat.toUInt8=x:=qs
 rw [e]
 unfold indexByte
 by_cases h:x=b
 ·subst h;simp
 ·rw [if_neg h]
  have:(b==x)=false:=by rw [beq_eq_false_iff_ne];exact λe=>h e.symm
  rw [this]
  simp [indexByte]
theorem I_idx (b x:UInt8) (w:World):Calls Tryz.prog 130 #[.string ⟨#[b]⟩,.int .u8 x.toNat] w λe w'=>e=.returned (.int .i64 (if x=b then 0 else -1))/\w=w':=by
 have h:=Tryz.strings_IndexByte ⟨#[b]⟩ (x.toNat:Int) w
 rw [show (⟨#[b]⟩:ByteArray).data.toList=[b] from rfl,idx_one] at h
 exact h.mono λe w' ⟨h1,h2⟩=>⟨h1,h2.symm⟩
def SplTo (b:UInt8) (l:List UInt8) (o:List (List UInt8)) (f i:Nat):Prop:=o++splitB b (l.drop f)=splitB b l/\f<=i/\∀ x∈(l.take i).drop f,x≠b
theorem SplTo.skip {b:UInt8} {l:List UInt8} {o:List (List UInt8)} {f i:Nat} (h:SplTo b l o f i) (hi:i<l.length) (hx:l[i]≠b):SplTo b l o f (i+1):=by
 refine ⟨h.1,by have:=h.2.1;omega,λx hm=>?_⟩
 rw [List.take_succ_eq_append_getElem hi,List.drop_append_of_le_length (by have:=h.2.1;simp;omega)] at hm
 rcases List.mem_append.1 hm with hm|hm
 ·exact h.2.2 x hm
 ·simp at hm;subst hm;exact hx
theorem SplTo.cut {b:UInt8} {l:List UInt8} {o:List (List UInt8)} {f i:Nat} (h:SplTo b l o f i) (hi:i<l.length) (hx:l[i]=b):SplTo b l (o++[(l.take i).drop f]) (i+1) (i+1):=by
 refine ⟨?_,Nat.le_refl _,λx hm=>?_⟩
 ·have h1:=h.1
  rw [drop_split h.2.1 hi,hx,splitB_cut _ h.2.2] at h1
  rw [List.append_assoc]
  exact h1
 ·rw [List.drop_eq_nil_of_le (by simp;omega)] at hm
  cases hm
theorem SplTo.all {b:UInt8} {l:List UInt8} {o:List (List UInt8)} {f:Nat} (h:SplTo b l o f l.length):o++[l.drop f]=splitB b l:=by
 have h2:=h.2.2
 rw [List.take_length] at h2
 rw [<- h.1,Zdr h2]
theorem SplTo.len {b:UInt8} {l:List UInt8} {o:List (List UInt8)} {f i:Nat} (h:SplTo b l o f i):o.length<=l.length+1:=by
 have h1:=congrArg List.length h.1
 rw [List.length_append] at h1
 have:=Zbe b l
 omega
theorem Zfu (b:UInt8) (l:List UInt8) (w:World) (hlim:l.length<=1048576) :
  Calls Tryz.prog 68 #[str l,.string ⟨#[b]⟩] w (Zc1 (splitB b l) w):=by
 have HG0:=qh (Zah (w.alloc (.cells #[] 9)) w.heap.size 9 1 (some ⟨w.heap.size,0,none⟩) 0 0 []) (Zah.lit w #[] 0 rfl (Nat.le_refl _) (Nat.zero_le _))
 go_enter Tryz.func68,Tryz.ntmps68
 go_wp2_with fail
 go_loopw [5,6,7] (λo_ f_ i_ wr=>∃ (i f:Nat) (B:Option Addr) (d:Nat) (o:List (List UInt8)),i<=l.length/\i_=.int .i64 i/\f_=.int .i64 f/\o_=.slice B o.length d/\SplTo b l o f i/\Zah wr w.heap.size 9 1 B o.length d (Zam o)/\Below w.heap.size w wr) (λ_ _ i_ _=>l.length-(RowKit.intOf i_).toNat)
 case atStart=>exact ⟨0,0,_,_,[],Nat.zero_le _,rfl,rfl,rfl,⟨rfl,Nat.le_refl _,λx hx=>by simp at hx⟩,HG0.out,bll⟩
 case round =>
  obtain ⟨i,f,B,d,o,hi,rfl,rfl,rfl,hs,hg,hb⟩:=hrel
  obtain ⟨wo,rfl⟩:=qe wr
  have hol:=hs.len
  have hfi:=hs.2.1
  have HS:=hdQ hs
  have HG:=hdQ hg
  have HB:=hdQ hb
  have hz:=hb.size
  have hnn:o.length<=1048577:=qo
  clear hs hg hb HG0
  by_cases hlt:i<l.length
  ·obtain ⟨x,hx⟩:=qv (l[i])
   have hat:∀ hh:i<ByteArray.size ⟨l.toArray⟩,({ data:=l.toArray }:ByteArray)[i]'hh=x:=λhh=>hx
   have HX:=hdQ hx
   have hi1:IntKind.i64.wrap ((i:Int)+1)=i+1:=IntWalk.i64_in _ qo
   have i2:(i:Int)<l.length:=qo
   have i3:(i:Int)<=l.length:=qo
   have f2:(f:Int)<=i:=qo
   clear hx hol
   by_cases hxb:x=b
   ·subst hxb
    have HC:=hdQ (HS.out.cut hlt HX.out)
    obtain ⟨u,hu⟩:=qv ((l.take i).drop f)
    have hex:({ data:=l.toArray }:ByteArray).extract f i=⟨u.toArray⟩:=by rw [Zdq,hu]
    rw [hu] at HC
    clear hu
    go_wp2_with (first|(go_at_call 130;refine (I_idx _ _ _).mono ?_;rw [if_pos rfl];rintro e w' ⟨rfl,rfl⟩)|(at_builtin;refine wpA (w.heap.size) Tryz.underlying50 T.infoString (Zam o) (Zam [u]) (Zbn _) ?_ ?_ ?_;exact (gwx HG.out);exact (ltt 1);rintro A' c' w2 gA;have g1:=gA.1;have g2:=gA.2.1;rw [Za6] at g1;have HG1:=hdQ g1;have HB1:=qh (Below w.heap.size w w2) (Below.trans (Below.alloc HB.out qo _) g2);clear gA g1 g2)|fail)
    go_roundw
    case rel=>exact ⟨i+1,i+1,_,_,_,qo,qg,qg,by rw [List.length_append];rfl,HC.out,by rw [List.length_append];exact HG1.out,HB1.out⟩
    case measure=>exact qn
   ·have HC:=hdQ (HS.out.skip hlt (by rw [HX.out];exact hxb))
    go_wp2_with (first|(go_at_call 130;refine (I_idx _ _ _).mono ?_;rw [if_neg hxb];rintro e w' ⟨rfl,rfl⟩)|fail)
    go_roundw
    case rel=>exact ⟨i+1,f,_,_,o,qo,qg,rfl,rfl,HC.out,HG.out,HB.out⟩
    case measure=>exact qn
  ·obtain rfl:i=l.length:=by omega
   have HA:=hdQ HS.out.all
   obtain ⟨u,hu⟩:=qv (l.drop f)
   have hex:({ data:=l.toArray }:ByteArray).extract f l.length=⟨u.toArray⟩:=by rw [Zdq,List.take_length,hu]
   have f2:(f:Int)<=l.length:=qo
   rw [hu] at HA
   clear hu hol
   go_wp2_with (at_builtin;refine wpA (w.heap.size) Tryz.underlying50 T.infoString (Zam o) (Zam [u]) (Zbn _) ?_ ?_ ?_;exact (gwx HG.out);exact (ltt 1);rintro A' c' w2 gA;have g1:=gA.1;have g2:=gA.2.1;rw [Za6] at g1;have HG1:=hdQ g1;have HB1:=qh (Below w.heap.size w w2) (Below.trans bll g2);clear gA g1 g2)
   go_ret
   have hll:(splitB b l).length=o.length+1:=by rw [<- HA.out,List.length_append];rfl
   refine ⟨A',c',by rw [hll];rfl, ?_,HG1.out.ge,HB1.out⟩
   rw [hll,<- HA.out]
   exact HG1.out.rs
theorem S_SplitAny (b:UInt8) (l:List UInt8) (w:World) (hlim:l.length<=1048576) :
  Calls Tryz.prog 17 #[str l,.string ⟨#[b]⟩] w (Zc1 (splitB b l) w):=by
 have HG0:=qh (Zah (w.alloc (.cells #[] 9)) w.heap.size 9 1 (some ⟨w.heap.size,0,none⟩) 0 0 []) (Zah.lit w #[] 0 rfl (Nat.le_refl _) (Nat.zero_le _))
 go_enter Tryz.func17,Tryz.ntmps17
 go_wp2_with fail
 go_loopw [5,6,7,8] (λo_ f_ i_ _ wr=>∃ (i f:Nat) (B:Option Addr) (d:Nat) (o:List (List UInt8)),i<=l.length/\i_=.int .i64 i/\f_=.int .i64 f/\o_=.slice B o.length d/\SplTo b l o f i/\Zah wr w.heap.size 9 1 B o.length d (Zam o)/\Below w.heap.size w wr) (λ_ _ i_ _ _=>l.length-(RowKit.intOf i_).toNat)
 case atStart=>exact ⟨0,0,_,_,[],Nat.zero_le _,rfl,rfl,rfl,⟨rfl,Nat.le_refl _,λx hx=>by simp at hx⟩,HG0.out,bll⟩
 case round =>
  obtain ⟨i,f,B,d,o,hi,rfl,rfl,rfl,hs,hg,hb⟩:=hrel
  obtain ⟨wo,rfl⟩:=qe wr
  have hol:=hs.len
  have hfi:=hs.2.1
  have HS:=hdQ hs
  have HG:=hdQ hg
  have HB:=hdQ hb
  have hz:=hb.size
  have hnn:o.length<=1048577:=qo
  clear hs hg hb HG0
  by_cases hlt:i<l.length
  ·obtain ⟨x,hx⟩:=qv (l[i])
   have hat:∀ hh:i<ByteArray.size ⟨l.toArray⟩,({ data:=l.toArray }:ByteArray)[i]'hh=x:=λhh=>hx
   have HX:=hdQ hx
   have hi1:IntKind.i64.wrap ((i:Int)+1)=i+1:=IntWalk.i64_in _ qo
   have i2:(i:Int)<l.length:=qo
   have i3:(i:Int)<=l.length:=qo
   have f2:(f:Int)<=i:=qo
   clear hx hol
   by_cases hxb:x=b
   ·subst hxb
    have HC:=hdQ (HS.out.cut hlt HX.out)
    obtain ⟨u,hu⟩:=qv ((l.take i).drop f)
    have hex:({ data:=l.toArray }:ByteArray).extract f i=⟨u.toArray⟩:=by rw [Zdq,hu]
    rw [hu] at HC
    clear hu
    have hb0:∀ hh:0<ByteArray.size ⟨#[x]⟩,({ data := #[x] }:ByteArray)[0]'hh=x:=λ_=>rfl
    go_wp2_with fail
    go_loopw [5,6,8] (λo_ f_ k_ wr=>o_=.slice B o.length d/\f_=.int .i64 f/\k_=.int .i64 0/\Zah wr w.heap.size 9 1 B o.length d (Zam o)/\Below w.heap.size w wr) (λ_ _ _ _=>0)
    case atStart=>exact ⟨rfl,rfl,rfl,HG.out,HB.out⟩
    case round =>
     obtain ⟨rfl,rfl,rfl,hg,hb⟩:=hrel
     have HG:=hdQ hg
     have HB:=hdQ hb
     have hz:=hb.size
     clear hg hb
     go_wp2_with fail
     go_region_held3 (λ_=>True) (trivial) (fail)
     go_wp2_with (at_builtin;refine wpA (w.heap.size) Tryz.underlying50 T.infoString (Zam o) (Zam [u]) (Zbn _) ?_ ?_ ?_;exact (gwx HG.out);exact (ltt 1);rintro A' c' w2 gA;have g1:=gA.1;have g2:=gA.2.1;rw [Za6] at g1;have HG1:=hdQ g1;have HB1:=qh (Below w.heap.size w w2) (Below.trans bll g2);clear gA g1 g2)
     all_goals
      go_wp2_with fail
      go_roundw
      case rel=>exact ⟨i+1,i+1,_,_,_,qo,qg,qg,by rw [List.length_append];rfl,HC.out,by rw [List.length_append];exact HG1.out,HB1.out⟩
      case measure=>exact qn
   ·have HC:=hdQ (HS.out.skip hlt (by rw [HX.out];exact hxb))
    have hb0:∀ hh:0<ByteArray.size ⟨#[b]⟩,({ data := #[b] }:ByteArray)[0]'hh=b:=λ_=>rfl
    have hne:((x.toNat:Int)==b.toNat)=false:=by
     rw [beq_eq_false_iff_ne];intro h;exact hxb (UInt8.toNat_inj.1 qo)
    have hne2:¬ x.toNat=b.toNat:=λh=>hxb (UInt8.toNat_inj.1 h)
    go_wp2_with fail
    go_loopw [5,6,8] (λo_ f_ k_ wr=>∃ k:Nat,k<=1/\o_=.slice B o.length d/\f_=.int .i64 f/\k_=.int .i64 k/\Zah wr w.heap.size 9 1 B o.length d (Zam o)/\Below w.heap.size w wr) (λ_ _ k_ _=>1-(RowKit.intOf k_).toNat)
    case atStart=>exact ⟨0,qo,rfl,rfl,rfl,HG.out,HB.out⟩
    case round =>
     obtain ⟨k,hk,rfl,rfl,rfl,hg,hb⟩:=hrel
     have HG:=hdQ hg
     have HB:=hdQ hb
     have hz:=hb.size
     clear hg hb
     by_cases hk0:k=0
     ·subst hk0
      rw [show ((0:Nat):Int)=0 from rfl]
      go_wp2_with fail
      go_region_held3 (λ_=>True) (trivial) (fail)
      all_goals
       go_wp2_with fail
       go_roundw
       case rel=>exact ⟨1,qo,rfl,rfl,rfl,(gwx HG.out),bll⟩
       case measure=>exact qn
     ·obtain rfl:k=1:=by omega
      rw [show ((1:Nat):Int)=1 from rfl]
      go_wp2_with fail
      go_roundw
      case rel=>exact ⟨i+1,f,_,_,o,qo,qg,rfl,rfl,HC.out,HG.out,HB.out⟩
      case measure=>exact qn
  ·obtain rfl:i=l.length:=by omega
   have HA:=hdQ HS.out.all
   obtain ⟨u,hu⟩:=qv (l.drop f)
   have hex:({ data:=l.toArray }:ByteArray).extract f l.length=⟨u.toArray⟩:=by rw [Zdq,List.take_length,hu]
   have f2:(f:Int)<=l.length:=qo
   rw [hu] at HA
   clear hu hol
   go_wp2_with (at_builtin;refine wpA (w.heap.size) Tryz.underlying50 T.infoString (Zam o) (Zam [u]) (Zbn _) ?_ ?_ ?_;exact (gwx HG.out);exact (ltt 1);rintro A' c' w2 gA;have g1:=gA.1;have g2:=gA.2.1;rw [Za6] at g1;have HG1:=hdQ g1;have HB1:=qh (Below w.heap.size w w2) (Below.trans bll g2);clear gA g1 g2)
   go_ret
   have hll:(splitB b l).length=o.length+1:=by rw [<- HA.out,List.length_append];rfl
   refine ⟨A',c',by rw [hll];rfl, ?_,HG1.out.ge,HB1.out⟩
   rw [hll,<- HA.out]
   exact HG1.out.rs
abbrev vPI (o:Option Int):Value:=.tuple #[.int .i64 (o.getD 0),.bool o.isSome]
theorem below_bytes (w:World) (t:TypeId) (s:ByteArray):Below w.heap.size w (Lib.bytesWorld w t s) :=
 ⟨rfl,rfl,rfl,by rw [Lib.bytesWorld_size];omega,λj hj=>Lib.bytesWorld_at_old w t s j hj⟩
set_option maxHeartbeats 4000000 in
theorem Zej (l:List UInt8) (w:World) (hlim:l.length<=281474976710656) (he:Env w) :
  Calls Tryz.prog 72 #[str l] w λe w'=>e=.returned (vPI (parseI l))/\Below w.heap.size w w':=by
 by_cases hok:∃ v,atoiAll l=.ok v
 ·obtain ⟨v,ha⟩:=hok
  have hp:=parseI_atoiAll (l:=l)
  rw [ha] at hp
  have HP:=hdQ hp
  clear hp
  go_enter Tryz.func72,Tryz.ntmps72
  go_wp2_with fail
  refine (Tryz.strconv_Atoi_ok ⟨l.toArray⟩ (by show l.length<=_;omega) v ha _).mono ?_
  rintro e w' ⟨rfl,hw⟩
  have hb:Below w.heap.size w w':=by
   rcases hw with rfl|⟨t,rfl⟩
   ·exact Below.refl _ _
   ·exact below_bytes _ _ _
  clear hw
  have hne:¬ l=[]:=by rintro rfl;cases ha
  have hle:l.isEmpty=false:=by cases l with|nil=>exact absurd rfl hne|cons=>rfl
  by_cases hf:fmtI v=l
  ·have HF:=qh (parseI l=some v) (by rw [HP.out,if_pos ⟨hf,hne⟩])
   go_wp2_with fail
   refine (Zdy v _ (he.tab.step hb)).mono ?_
   rintro e w2 ⟨rfl,hb2⟩
   go_wp2_with fail
   exact bodyPost_ret (v:=vPI (some v)) (by simp [results,Tryz.results72,go_sem]) rfl ⟨by rw [HF.out],Below.step hb2 hb hb.size⟩
  ·have HF:=qh (parseI l=none) (by rw [HP.out,if_neg (λh=>hf h.1)])
   have hfb:(fmtI v==l)=false:=by simpa using hf
   go_wp2_with fail
   refine (Zdy v _ (he.tab.step hb)).mono ?_
   rintro e w2 ⟨rfl,hb2⟩
   go_wp2_with fail
   exact bodyPost_ret (v:=vPI none) (by simp [results,Tryz.results72,go_sem]) rfl ⟨by rw [HF.out],Below.step hb2 hb hb.size⟩
 ·have HP:=qh (parseI l=none) (by
   rw [parseI_atoiAll]
   cases ha:atoiAll l
   ·exact absurd ⟨_,ha⟩ hok
   ·rfl
   ·rfl)
  have hbad:∀ v,atoiAll l ≠ .ok v:=λv ha=>hok ⟨v,ha⟩
  clear hok
  go_enter Tryz.func72,Tryz.ntmps72
  go_wp2_with fail
  refine (Atoi_bad ⟨l.toArray⟩ hlim hbad _ he).mono ?_
  rintro e w' ⟨v,N,rfl,hb⟩
  go_wp2_with fail
  exact bodyPost_ret (v:=vPI none) (by simp [results,Tryz.results72,go_sem]) rfl ⟨by rw [HP.out],hb⟩
theorem parse_take {l:List UInt8} {i k n d:Nat} {b:UInt8} (hk:k<=i) (h:decFrom 0 ((l.take i).drop k)=some n) (hb:l[i]? = some b) (hd:digitVal b=some d):decFrom 0 ((l.take (i+1)).drop k)=some (n*10+d):=by
 have hi:i<l.length:=(List.getElem?_eq_some_iff.1 hb).1
 rw [List.take_succ_eq_append_getElem hi,List.drop_append_of_le_length (by simp;omega),Zff,h]
 have:l[i]=b:=(List.getElem?_eq_some_iff.1 hb).2
 simp only [Option.bind_some,decFrom,this,hd]
theorem Zf0 {l:List UInt8} {i k n:Nat} (h:decFrom 0 ((l.take i).drop k)=some n) (hl:l.length<=12):n<1000000000000:=by
 have h1:=decFrom_lt _ _ _ h
 have h2:((l.take i).drop k).length<=12:=by simp;omega
 have h3:(10:Nat) ^ ((l.take i).drop k).length<=10 ^ 12:=Nat.pow_le_pow_right qd h2
 omega
theorem str_at {l:List UInt8} {i:Nat} {b:UInt8} (h:l[i]? = some b):∀ hh:i<ByteArray.size ⟨l.toArray⟩,({ data:=l.toArray }:ByteArray)[i]'hh=b :=
 λhh=>(List.getElem?_eq_some_iff.1 h).2
theorem b_i64 (b:UInt8):IntKind.i64.wrap (b.toNat:Int)=b.toNat:=IntWalk.i64_in _ (by have:=b.toNat_lt;omega)
theorem digit_of {b:UInt8} (h:48<=b.toNat/\b.toNat<=57):∃ d:Nat,d<=9/\(b.toNat:Int)-48=d/\digitVal b=some d :=
 ⟨b.toNat-48,qo,qo,by unfold digitVal;rw [if_pos h]⟩
theorem S_ParseInt_nil (w:World) :
  Calls Tryz.prog 20 #[str []] w λe w'=>e=.returned (vPI (parseI []))/\Below w.heap.size w w':=by
 go_enter Tryz.func20,Tryz.ntmps20
 go_wp2_with fail
 go_loopw [4,6,7] (λp q _ wr=>∃ (n i:Nat),p=.int .i64 n/\q=.int .i64 i/\i<=([]:List UInt8).length/\decFrom 0 ((([]:List UInt8).take i).drop 0)=some n/\(0<i->([]:List UInt8).length<=12)/\Below w.heap.size w wr) (λ_ q _ _=>([]:List UInt8).length-(RowKit.intOf q).toNat)
 case atStart=>exact ⟨0,0,rfl,rfl,Nat.zero_le _,rfl,qo,bll⟩
 case round =>
  obtain ⟨n,i,rfl,rfl,hi,hn,h12,hb⟩:=hrel
  have HN:=hdQ hn
  have HB:=hdQ hb
  have H12:=hdQ h12
  clear hn hb h12
  obtain rfl:i=0:=by simpa using hi
  go_wp2_with fail
  exact bodyPost_ret (v:=vPI none) (by simp [results,Tryz.results20,go_sem]) rfl ⟨rfl,HB.out⟩
theorem S_ParseInt_pos (l:List UInt8) (w:World) (hlim:l.length<=4611686018427387904) (c:UInt8) (hc:l[0]? = some c) (hc45:c≠45) :
  Calls Tryz.prog 20 #[str l] w λe w'=>e=.returned (vPI (parseI l))/\Below w.heap.size w w':=by
 have hpos:0<l.length:=(List.getElem?_eq_some_iff.1 hc).1
 have HC0:=hdQ hc
 have hb0:=str_at hc
 have hn45:((c.toNat:Int)==45)=false:=by
  rw [beq_eq_false_iff_ne];intro h;exact hc45 (UInt8.toNat_inj.1 (by rw [show (45:UInt8).toNat=45 from rfl];omega))
 clear hc
 go_enter Tryz.func20,Tryz.ntmps20
 go_wp2_with fail
 go_loopw [4,6,7] (λp q _ wr=>∃ (n i:Nat),p=.int .i64 n/\q=.int .i64 i/\i<=l.length/\decFrom 0 ((l.take i).drop 0)=some n/\(0<i->l.length<=12)/\Below w.heap.size w wr) (λ_ q _ _=>l.length-(RowKit.intOf q).toNat)
 case atStart=>exact ⟨0,0,rfl,rfl,Nat.zero_le _,rfl,qo,bll⟩
 case round =>
  obtain ⟨n,i,rfl,rfl,hi,hn,h12,hb⟩:=hrel
  have HN:=hdQ hn
  have HB:=hdQ hb
  have H12:=hdQ h12
  clear hn hb h12
  by_cases hlt:i<l.length
  ·obtain ⟨b,hbi⟩:∃ b,l[i]? = some b:=⟨_,List.getElem?_eq_getElem hlt⟩
   have HBI:=hdQ hbi
   have hat:=str_at hbi
   have hw0:=b_i64 b
   have hi1:IntKind.i64.wrap ((i:Int)+1)=i+1:=IntWalk.i64_in _ qo
   clear hbi hb0
   have hs:(i:Int)=0∨¬ (i:Int)=0:=qo
   have hz_:i=0∨¬ i=0:=qo
   rcases hz_ with rfl|hz_
   ·obtain rfl:n=0:=(Option.some.inj HN.out).symm
    have w0:IntKind.i64.wrap 0=0:=rfl
    have w1:IntKind.i64.wrap 1=1:=rfl
    clear hs hi1
    rw [show ((0:Nat):Int)=0 from rfl]
    by_cases hdig:48<=b.toNat/\b.toNat<=57
    ·obtain ⟨d,hd9,hd,hdv⟩:=digit_of hdig
     have hd1:IntKind.i64.wrap ((b.toNat:Int)-48)=d:=by rw [hd];exact IntWalk.i64_in _ qo
     have hd2:IntKind.i64.wrap (d:Int)=d:=IntWalk.i64_in _ qo
     have HD:=hdQ hdv
     have hdz:¬ (d:Int)<0:=qo
     have hd9':¬ (9:Int)<(d:Int):=qo
     clear hdv hd hdig
     by_cases hlong:12<l.length
     ·have hll:(12:Int)<(l.length:Int):=by omega
      have HP:=qh (parseI l=none) (Zf2 hlong)
      clear hlong
      go_wp2_with fail
      exact bodyPost_ret (v:=vPI none) (by simp [results,Tryz.results20,go_sem]) rfl ⟨by rw [HP.out],HB.out⟩
     ·have hll:¬ (12:Int)<(l.length:Int):=by omega
      have HT:=hdQ (parse_take (k:=0) (Nat.le_refl 0) HN.out HBI.out HD.out)
      clear hlong
      go_wp2_with fail
      go_roundw
      case rel=>exact ⟨d,1,rfl,rfl,qo,by simpa using HT.out,qo,bll⟩
      case measure=>exact qn
    ·have HP:=qh (parseI l=none) (parseI_bad HBI.out hdig (by intro _;intro e;subst e;exact hc45 (Option.some.inj (HC0.out.symm.trans HBI.out))))
     obtain ⟨z,hz⟩:∃ z:Int,IntKind.i64.wrap ((b.toNat:Int)-48)=z:=⟨_,rfl⟩
     have hzr:z<0∨9<z:=by
      rw [<- hz,IntWalk.i64_in _ (by have:=b.toNat_lt;omega)];omega
     clear hdig
     rcases hzr with hz0|hz9
     ·go_wp2_with fail
      exact bodyPost_ret (v:=vPI none) (by simp [results,Tryz.results20,go_sem]) rfl ⟨by rw [HP.out],HB.out⟩
     ·have hz0:¬ z<0:=by omega
      go_wp2_with fail
      exact bodyPost_ret (v:=vPI none) (by simp [results,Tryz.results20,go_sem]) rfl ⟨by rw [HP.out],HB.out⟩
   ·have hiz:¬ (i:Int)=0:=by omega
    clear hs
    by_cases hdig:48<=b.toNat/\b.toNat<=57
    ·obtain ⟨d,hd9,hd,hdv⟩:=digit_of hdig
     have hd1:IntKind.i64.wrap ((b.toNat:Int)-48)=d:=by rw [hd];exact IntWalk.i64_in _ qo
     have HD:=hdQ hdv
     have hdz:¬ (d:Int)<0:=qo
     have hd9':¬ (9:Int)<(d:Int):=qo
     clear hdv hd hdig
     by_cases hlong:12<l.length
     ·have hll:(12:Int)<(l.length:Int):=by omega
      have HP:=qh (parseI l=none) (Zf2 hlong)
      clear hlong
      go_wp2_with fail
      exact bodyPost_ret (v:=vPI none) (by simp [results,Tryz.results20,go_sem]) rfl ⟨by rw [HP.out],HB.out⟩
     ·have hll:¬ (12:Int)<(l.length:Int):=by omega
      have hnb:=Zf0 HN.out qo
      have hm1:IntKind.i64.wrap ((n:Int)*10)=n*10:=IntWalk.i64_in _ qo
      have hm2:IntKind.i64.wrap ((n:Int)*10+d)=n*10+d:=IntWalk.i64_in _ qo
      clear hlong
      go_wp2_with fail
      go_roundw
      case rel=>exact ⟨n*10+d,i+1,qg,qg,qo,parse_take qo HN.out HBI.out HD.out,qo,bll⟩
      case measure=>exact qn
    ·have HP:=qh (parseI l=none) (parseI_bad HBI.out hdig (by intro h;exact absurd h hz_))
     obtain ⟨z,hz⟩:∃ z:Int,IntKind.i64.wrap ((b.toNat:Int)-48)=z:=⟨_,rfl⟩
     have hzr:z<0∨9<z:=by
      rw [<- hz,IntWalk.i64_in _ (by have:=b.toNat_lt;omega)];omega
     clear hdig
     rcases hzr with hz0|hz9
     ·go_wp2_with fail
      exact bodyPost_ret (v:=vPI none) (by simp [results,Tryz.results20,go_sem]) rfl ⟨by rw [HP.out],HB.out⟩
     ·have hz0:¬ z<0:=by omega
      go_wp2_with fail
      exact bodyPost_ret (v:=vPI none) (by simp [results,Tryz.results20,go_sem]) rfl ⟨by rw [HP.out],HB.out⟩
  ·obtain rfl:i=l.length:=by omega
   have hfull:decFrom 0 l=some n:=by have:=HN.out;rw [List.take_length] at this;exact this
   have hbig:=Zf0 HN.out (H12.out hpos)
   have hem:l.isEmpty=false:=by cases l with|nil=>cases hpos|cons=>rfl
   by_cases hf:fmtI (n:Int)=l
   ·have HP:=qh (parseI l=some (n:Int)) (parseI_of (by rintro rfl;cases hpos) hf)
    clear hbig hfull hi hlt
    go_wp2_with fail
    refine (Zcj _ _).mono ?_
    rintro e w2 ⟨rfl,hb2⟩
    go_wp2_with fail
    exact bodyPost_ret (v:=vPI (some (n:Int))) (by simp [results,Tryz.results20,go_sem]) rfl ⟨by rw [HP.out],Below.step hb2 HB.out HB.out.size⟩
   ·have HP:=qh (parseI l=none) (parseI_pos hfull hf)
    have hfb:(fmtI (n:Int)==l)=false:=by simpa using hf
    clear hbig hfull hi hlt
    go_wp2_with fail
    refine (Zcj _ _).mono ?_
    rintro e w2 ⟨rfl,hb2⟩
    go_wp2_with fail
    exact bodyPost_ret (v:=vPI none) (by simp [results,Tryz.results20,go_sem]) rfl ⟨by rw [HP.out],Below.step hb2 HB.out HB.out.size⟩
theorem S_ParseInt_neg (l:List UInt8) (w:World) (hlim:l.length<=4611686018427387904) (hc:l[0]? = some 45) :
  Calls Tryz.prog 20 #[str l] w λe w'=>e=.returned (vPI (parseI l))/\Below w.heap.size w w':=by
 have hpos:0<l.length:=(List.getElem?_eq_some_iff.1 hc).1
 have HC0:=hdQ hc
 have hb0:=str_at hc
 clear hc
 go_enter Tryz.func20,Tryz.ntmps20
 go_wp2_with fail
 go_loopw [4,6,7] (λp q _ wr=>∃ (n i:Nat),p=.int .i64 n/\q=.int .i64 i/\i<=l.length/\decFrom 0 ((l.take i).drop 1)=some n/\(1<i->l.length<=12)/\Below w.heap.size w wr) (λ_ q _ _=>l.length-(RowKit.intOf q).toNat)
 case atStart=>exact ⟨0,0,rfl,rfl,Nat.zero_le _,rfl,qo,bll⟩
 case round =>
  obtain ⟨n,i,rfl,rfl,hi,hn,h12,hb⟩:=hrel
  have HN:=hdQ hn
  have HB:=hdQ hb
  have H12:=hdQ h12
  clear hn hb h12
  by_cases hlt:i<l.length
  ·obtain ⟨b,hbi⟩:∃ b,l[i]? = some b:=⟨_,List.getElem?_eq_getElem hlt⟩
   have HBI:=hdQ hbi
   have hat:=str_at hbi
   have hw0:=b_i64 b
   have hi1:IntKind.i64.wrap ((i:Int)+1)=i+1:=IntWalk.i64_in _ qo
   clear hbi hb0
   by_cases hi0:i=0
   ·subst hi0
    obtain ⟨z,hz⟩:∃ z:Int,IntKind.i64.wrap ((b.toNat:Int)-48)=z:=⟨_,rfl⟩
    go_wp2_with fail
    go_roundw
    case rel=>exact ⟨n,1,rfl,qg,qo,by have:=HN.out;simp at this ⊢;cases l<;>simpa using this,qo,bll⟩
    case measure=>exact qn
   ·have hiz:¬ (i:Int)=0:=by omega
    by_cases hdig:48<=b.toNat/\b.toNat<=57
    ·obtain ⟨d,hd9,hd,hdv⟩:=digit_of hdig
     have hd1:IntKind.i64.wrap ((b.toNat:Int)-48)=d:=by rw [hd];exact IntWalk.i64_in _ qo
     have HD:=hdQ hdv
     have hdz:¬ (d:Int)<0:=qo
     have hd9':¬ (9:Int)<(d:Int):=qo
     clear hdv hd hdig
     by_cases hlong:12<l.length
     ·have hll:(12:Int)<(l.length:Int):=by omega
      have HP:=qh (parseI l=none) (Zf2 hlong)
      clear hlong
      go_wp2_with fail
      exact bodyPost_ret (v:=vPI none) (by simp [results,Tryz.results20,go_sem]) rfl ⟨by rw [HP.out],HB.out⟩
     ·have hll:¬ (12:Int)<(l.length:Int):=by omega
      have hnb:=Zf0 HN.out qo
      have hm1:IntKind.i64.wrap ((n:Int)*10)=n*10:=IntWalk.i64_in _ qo
      have hm2:IntKind.i64.wrap ((n:Int)*10+d)=n*10+d:=IntWalk.i64_in _ qo
      clear hlong
      go_wp2_with fail
      go_roundw
      case rel=>exact ⟨n*10+d,i+1,qg,qg,qo,parse_take qo HN.out HBI.out HD.out,qo,bll⟩
      case measure=>exact qn
    ·have HP:=qh (parseI l=none) (parseI_bad HBI.out hdig (by intro h;exact absurd h hi0))
     obtain ⟨z,hz⟩:∃ z:Int,IntKind.i64.wrap ((b.toNat:Int)-48)=z:=⟨_,rfl⟩
     have hzr:z<0∨9<z:=by
      rw [<- hz,IntWalk.i64_in _ (by have:=b.toNat_lt;omega)];omega
     clear hdig
     rcases hzr with hz0|hz9
     ·go_wp2_with fail
      exact bodyPost_ret (v:=vPI none) (by simp [results,Tryz.results20,go_sem]) rfl ⟨by rw [HP.out],HB.out⟩
     ·have hz0:¬ z<0:=by omega
      go_wp2_with fail
      exact bodyPost_ret (v:=vPI none) (by simp [results,Tryz.results20,go_sem]) rfl ⟨by rw [HP.out],HB.out⟩
  ·obtain rfl:i=l.length:=by omega
   have hfull:decFrom 0 l.tail=some n:=by have:=HN.out;rw [List.take_length] at this;cases l with|nil=>exact this|cons=>exact this
   have hcons:l=45::l.tail:=by have:=HC0.out;cases l with|nil=>cases this|cons a t=>simp at this;rw [this];rfl
   have hbig:n<1000000000000∨n=0:=by
    by_cases h1:1<l.length
    ·exact .inl (Zf0 HN.out (H12.out h1))
    ·right
     have ht:l.tail=[]:=List.eq_nil_of_length_eq_zero (by rw [List.length_tail];omega)
     rw [ht] at hfull
     exact (Option.some.inj hfull).symm
   have hng:IntKind.i64.wrap (-(n:Int)) = -n:=IntWalk.i64_in _ qo
   have hem:l.isEmpty=false:=by rw [hcons];rfl
   obtain ⟨m,hm⟩:∃ m:Int, -(n:Int)=m:=⟨_,rfl⟩
   by_cases hf:fmtI m=l
   ·have HP:=qh (parseI l=some m) (parseI_of (by rw [hcons];simp) hf)
    clear hbig hcons hfull hi hlt
    rw [hm] at hng
    go_wp2_with fail
    all_goals (try rw [hm])
    refine (Zcj _ _).mono ?_
    rintro e w2 ⟨rfl,hb2⟩
    go_wp2_with fail
    exact bodyPost_ret (v:=vPI (some m)) (by simp [results,Tryz.results20,go_sem]) rfl ⟨by rw [HP.out],Below.step hb2 HB.out HB.out.size⟩
   ·have HP:=qh (parseI l=none) (by rw [hcons];exact parseI_neg hfull (by rw [hm,<- hcons];exact hf))
    have hfb:(fmtI m==l)=false:=by simpa using hf
    clear hbig hcons hfull hi hlt
    rw [hm] at hng
    go_wp2_with fail
    all_goals (try rw [hm])
    refine (Zcj _ _).mono ?_
    rintro e w2 ⟨rfl,hb2⟩
    go_wp2_with fail
    exact bodyPost_ret (v:=vPI none) (by simp [results,Tryz.results20,go_sem]) rfl ⟨by rw [HP.out],Below.step hb2 HB.out HB.out.size⟩
theorem Zeh (l:List UInt8) (w:World) (hlim:l.length<=4611686018427387904) :
  Calls Tryz.prog 20 #[str l] w λe w'=>e=.returned (vPI (parseI l))/\Below w.heap.size w w':=by
 cases hc:l[0]? with
 | none =>
  obtain rfl:l=[]:=by cases l with|nil=>rfl|cons=>cases hc
  exact S_ParseInt_nil w
 | some c =>
  by_cases h45:c=45
  ·subst h45;exact S_ParseInt_neg l w hlim hc
  ·exact S_ParseInt_pos l w hlim c hc h45
def parseTo:List (List UInt8)->Option (List Int)
 | []=>some []
 | x::t=>(parseI x).bind λv=>(parseTo t).map λr=>v::r
theorem Zfe:∀ (a b:List (List UInt8)),parseTo (a++b)=(parseTo a).bind λu=>(parseTo b).map λr=>u++r
 | [],b=>by simp [parseTo]
 | x::t,b=>by
  simp only [List.cons_append,parseTo,Zfe t b]
  cases parseI x with
  | none=>rfl
  | some v =>
   simp only [Option.bind_some]
   cases parseTo t with
   | none=>rfl
   | some u=>cases parseTo b<;>rfl
theorem parseTo_succ {ps:List (List UInt8)} {k:Nat} {o:List Int} {v:Int} (hk:k<ps.length) (h:parseTo (ps.take k)=some o) (hv:parseI ps[k]=some v):parseTo (ps.take (k+1))=some (o++[v]):=by
 rw [List.take_succ_eq_append_getElem hk,Zfe,h]
 simp [parseTo,hv]
theorem parseTo_none {ps:List (List UInt8)} {k:Nat} (hk:k<ps.length) (hv:parseI ps[k]=none):parseTo ps=none:=by
 conv=>lhs;rw [<- List.take_append_drop k ps]
 rw [Zfe,List.drop_eq_getElem_cons hk]
 cases parseTo (ps.take k) with
 | none=>rfl
 | some u=>simp [parseTo,hv]
theorem parseTo_map:∀ {l:List Int},(∀ n∈l,Zcg n)->parseTo (l.map fmtI)=some l
 | [],_=>rfl
 | n::l,h=>by
  have ih:=parseTo_map (l:=l) (λm hm=>h m (by simp [hm]))
  simp only [List.map_cons,parseTo,parseI_fmtI (h n qs),Option.bind_some,ih,Option.map_some]
def Za2 (l:List UInt8):Option (List Int):=if l=[45] then some [] else parseTo (splitB 44 l)
theorem RS.farg {w w':World} {sz n c:Nat} {A:Option Addr} {xs:List Value} (h:RS w sz A n c xs) (hs:w.heap.size<=w'.heap.size) (hf:∀ x,x∈gOf A->∀ o,w'.cell? ⟨x,o,none⟩=w.cell? ⟨x,o,none⟩):RS w' sz A n c xs:=by
 obtain ⟨hl,A0,c0,hv,hn,hc,h0⟩:=h
 refine ⟨hl,A0,c0,hv,hn,hc,λhp=>?_⟩
 obtain ⟨b,o,hA,h1,h2,h3⟩:=h0 hp
 simp only [Value.slice.injEq] at hv
 obtain ⟨rfl,_,rfl⟩:=hv
 subst hA
 exact ⟨b,o,rfl,h1,Nat.lt_of_lt_of_le h2 hs,λj hj=>(hf b (by simp [gOf]) _).trans (h3 j hj)⟩
def OutPL (r:Option (List Int)) (w:World) (e:Ending) (w':World):Prop :=
 ∃ A c,e=.returned (.tuple #[.slice A (r.getD []).length c,.bool r.isSome])/\Zbu w' 1 A (r.getD []).length c 3 (ints (r.getD []))/\(∀ x,x∈gOf A->w.heap.size<=x)/\Below w.heap.size w w'
theorem S_ParseInts (l:List UInt8) (w:World) (hlim:l.length<=1048576) :
  Calls Tryz.prog 55 #[str l] w (OutPL (Za2 l) w):=by
 have HG0:=qh (Zah (w.alloc (.cells #[] 3)) w.heap.size 3 1 (some ⟨w.heap.size,0,none⟩) 0 0 []) (Zah.lit w #[] 0 rfl (Nat.le_refl _) (Nat.zero_le _))
 by_cases h45:l=[45]
 ·subst h45
  go_enter Tryz.func55,Tryz.ntmps55
  go_wp2_with fail
  exact bodyPost_ret (v:=.tuple #[.slice (some ⟨w.heap.size,0,none⟩) 0 0,.bool true]) (by simp [results,Tryz.results55,go_sem]) rfl ⟨_,_,rfl,HG0.out.ownS,HG0.out.ge,bll⟩
 ·have HPL:=qh (Za2 l=parseTo (splitB 44 l)) (by unfold Za2;rw [if_neg h45])
  have hb45:(l==[45])=false:=by simpa using h45
  obtain ⟨ps,hps⟩:=qv (splitB 44 l)
  have HPS:=qh (∀ k (hk:k<ps.length),ps[k].length<=l.length) (λk hk=>Zc3 (b:=44) (by rw [hps];exact List.getElem_mem hk))
  have hpl:ps.length<=1048577:=by have:=Zbe 44 l;rw [hps] at this;omega
  have HSA:=qh (∀ wx,Calls Tryz.prog 17 #[str l,.string ⟨#[44]⟩] wx (Zc1 ps wx)) (λwx=>by have:=S_SplitAny 44 l wx hlim;rwa [hps] at this)
  rw [hps] at HPL
  clear hps
  go_enter Tryz.func55,Tryz.ntmps55
  go_wp2_with fail
  refine (HSA.out _).mono ?_
  rintro e w1 ⟨P,pc,rfl,hrs,hpg,hb⟩
  have hP0:∀ x,x∈gOf P->w.heap.size+1<=x:=λx hx=>by have:=hpg x hx;simpa using this
  have HP0:=qh (∀ x,x∈gOf (some (⟨w.heap.size,0,none⟩:Addr))->x∉gOf P) (λx hx hm=>by have:=hP0 x hm;simp [gOf] at hx;omega)
  clear hpg hP0
  have HRS:=hdQ hrs
  have HB1:=qh (Below w.heap.size w w1) bll
  have HG1:=qh (Zah w1 w.heap.size 3 1 (some ⟨w.heap.size,0,none⟩) 0 0 []) (Zah.step hb HG0.out)
  clear hrs hb HG0
  go_wp2_with fail
  go_loopw [4,6,7,8,16] (λo_ _ _ _ i_ wr=>∃ (k:Nat) (o:List Int) (B:Option Addr) (d:Nat),k<=ps.length/\i_=.int .i64 k/\o_=.slice B k d/\parseTo (ps.take k)=some o/\o.length=k/\Zah wr w.heap.size 3 1 B k d (ints o)/\RS wr 1 P ps.length pc (Zam ps)/\(∀ x,x∈gOf B->x∉gOf P)/\Below w.heap.size w wr) (λ_ _ _ _ i_ _=>ps.length-(RowKit.intOf i_).toNat)
  case atStart=>exact ⟨0,[],_,_,Nat.zero_le _,rfl,rfl,rfl,rfl,HG1.out,HRS.out,HP0.out,HB1.out⟩
  case round =>
   obtain ⟨k,o,B,d,hk,rfl,rfl,ht,hok,hg,hr1,hdj,hb⟩:=hrel
   have HT:=hdQ ht
   have HOK:=hdQ hok
   have HG:=hdQ hg
   have HB:=hdQ hb
   have hz:=hb.size
   have HR:=hdQ hr1
   have HDJ:=hdQ hdj
   clear ht hok hg hr1 hdj hb
   by_cases hlt:k<ps.length
   ·obtain ⟨b,off,rfl,hbh,hcell⟩:=HR.out.open_.2.2 qo
    have c1:wr.cell? ⟨b,off+k,none⟩=some (str ps[k]):=by rw [hcell k qo,Zfd hlt]
    have hxl:=HPS.out k hlt
    have i2:(k:Int)<ps.length:=qo
    clear hcell
    cases hv:parseI ps[k] with
    | none =>
     have HN:=qh (Za2 l=none) (by rw [HPL.out];exact parseTo_none hlt hv)
     generalize hx:ps[k]=x at *
     clear hx
     go_wp2_with fail
     refine (Zeh _ _ qo).mono ?_
     rintro e wA ⟨rfl,hbA⟩
     rw [hv]
     go_wp2_with fail
     rw [HN.out]
     exact bodyPost_ret (v:=.tuple #[.slice none 0 0,.bool false]) (by simp [results,Tryz.results55,go_sem]) rfl ⟨none,0,rfl,Zbu.none_ _ _ _,λx hx=>absurd hx (by simp [gOf]),Below.step hbA HB.out HB.out.size⟩
    | some v =>
     have HS:=hdQ (parseTo_succ hlt HT.out hv)
     generalize hx:ps[k]=x at *
     clear hx
     go_wp2_with fail
     refine (Zeh _ _ qo).mono ?_
     rintro e wA ⟨rfl,hbA⟩
     have zA:=hbA.size
     (try simp at zA)
     have HGA:=qh (Zah wA w.heap.size 3 1 B k d (ints o)) (Zah.step hbA HG.out)
     have HBA:=qh (Below w.heap.size w wA) (Below.step hbA HB.out HB.out.size)
     have HRA:=qh (RS wA 1 (some ⟨b,off,none⟩) ps.length pc (Zam ps)) (RS.step hbA HR.out)
     have hbB:b∉gOf B:=λhm=>HDJ.out b hm (by simp [gOf])
     clear hbA
     rw [hv]
     go_wp2_with (at_builtin;refine wpA (w.heap.size) Tryz.underlying24 T.infoInt (ints o) (ints [v]) (Zde _) ?_ ?_ ?_;exact (gwx HGA.out);exact (ltt 1);rintro A' c' w2 gA;have g1:=gA.1;have g2:=gA.2.1;have HF:=hdQ (Za5.far gA (b:=b) (by simp;omega) hbB).1;have HO:=hdQ gA.2.2.2.2;have gZ:=gA.2.2.2.1;(try simp at gZ);have HG2:=qh (Zah w2 w.heap.size 3 1 A' (k+1) c' (ints (o++[v]))) (by have e:ints (o++[v])=ints o++ints [v]:=qs;rw [e];exact g1);have HB2:=qh (Below w.heap.size w w2) (Below.trans bll g2);clear gA g1 g2)
     have HR2:=qh (RS w2 1 (some ⟨b,off,none⟩) ps.length pc (Zam ps)) (RS.farg (RS.alloc HRA.out _) (by simp;omega) (λx hx o=>by simp [gOf] at hx;subst hx;exact HF.out o))
     have HD2:=qh (∀ x,x∈gOf A'->x∉gOf (some (⟨b,off,none⟩:Addr))) (λx hx hm=>by
      simp [gOf] at hm;subst hm
      rcases HO.out with e|e
      ·rw [e] at hx;exact hbB hx
      ·rw [e] at hx;simp at hx;omega)
     go_roundw
     case rel=>exact ⟨k+1,o++[v],_,_,qo,qg,rfl,HS.out,by rw [List.length_append,HOK.out];rfl,HG2.out,HR2.out,HD2.out,HB2.out⟩
     case measure=>exact qn
   ·obtain rfl:k=ps.length:=by omega
    have HN:=qh (Za2 l=some o) (by rw [HPL.out];have:=HT.out;rwa [List.take_length] at this)
    have hol:o.length=ps.length:=HOK.out
    go_wp2_with fail
    rw [HN.out]
    exact bodyPost_ret (v:=.tuple #[.slice B o.length d,.bool true]) (by simp [results,Tryz.results55,go_sem,hol]) rfl ⟨B,d,rfl,by have:=HG.out.ownS;rw [<- hol] at this;exact this,HG.out.ge,HB.out⟩
theorem I_ParseInts (l:List UInt8) (w:World) (hlim:l.length<=1048576) (he:Env w) :
  Calls Tryz.prog 132 #[str l] w (OutPL (Za2 l) w):=by
 have HE:=hdQ he
 clear he
 have HG0:=qh (Zah (w.alloc (.cells #[] 3)) w.heap.size 3 1 (some ⟨w.heap.size,0,none⟩) 0 0 []) (Zah.lit w #[] 0 rfl (Nat.le_refl _) (Nat.zero_le _))
 by_cases h45:l=[45]
 ·subst h45
  go_enter Tryz.func132,Tryz.ntmps132
  go_wp2_with fail
  exact bodyPost_ret (v:=.tuple #[.slice (some ⟨w.heap.size,0,none⟩) 0 0,.bool true]) (by simp [results,Tryz.results132,go_sem]) rfl ⟨_,_,rfl,HG0.out.ownS,HG0.out.ge,bll⟩
 ·have HPL:=qh (Za2 l=parseTo (splitB 44 l)) (by unfold Za2;rw [if_neg h45])
  have hb45:(l==[45])=false:=by simpa using h45
  obtain ⟨ps,hps⟩:=qv (splitB 44 l)
  have HPS:=qh (∀ k (hk:k<ps.length),ps[k].length<=l.length) (λk hk=>Zc3 (b:=44) (by rw [hps];exact List.getElem_mem hk))
  have hpl:ps.length<=1048577:=by have:=Zbe 44 l;rw [hps] at this;omega
  have HSA:=qh (∀ wx,Calls Tryz.prog 68 #[str l,.string ⟨#[44]⟩] wx (Zc1 ps wx)) (λwx=>by have:=Zfu 44 l wx hlim;rwa [hps] at this)
  rw [hps] at HPL
  clear hps
  go_enter Tryz.func132,Tryz.ntmps132
  go_wp2_with fail
  refine (HSA.out _).mono ?_
  rintro e w1 ⟨P,pc,rfl,hrs,hpg,hb⟩
  have hP0:∀ x,x∈gOf P->w.heap.size+1<=x:=λx hx=>by have:=hpg x hx;simpa using this
  have HP0:=qh (∀ x,x∈gOf (some (⟨w.heap.size,0,none⟩:Addr))->x∉gOf P) (λx hx hm=>by have:=hP0 x hm;simp [gOf] at hx;omega)
  clear hpg hP0
  have HRS:=hdQ hrs
  have HB1:=qh (Below w.heap.size w w1) bll
  have HG1:=qh (Zah w1 w.heap.size 3 1 (some ⟨w.heap.size,0,none⟩) 0 0 []) (Zah.step hb HG0.out)
  clear hrs hb HG0
  go_wp2_with fail
  go_loopw [4,6,7,8,16] (λo_ _ _ _ i_ wr=>∃ (k:Nat) (o:List Int) (B:Option Addr) (d:Nat),k<=ps.length/\i_=.int .i64 k/\o_=.slice B k d/\parseTo (ps.take k)=some o/\o.length=k/\Zah wr w.heap.size 3 1 B k d (ints o)/\RS wr 1 P ps.length pc (Zam ps)/\(∀ x,x∈gOf B->x∉gOf P)/\Below w.heap.size w wr) (λ_ _ _ _ i_ _=>ps.length-(RowKit.intOf i_).toNat)
  case atStart=>exact ⟨0,[],_,_,Nat.zero_le _,rfl,rfl,rfl,rfl,HG1.out,HRS.out,HP0.out,HB1.out⟩
  case round =>
   obtain ⟨k,o,B,d,hk,rfl,rfl,ht,hok,hg,hr1,hdj,hb⟩:=hrel
   have HT:=hdQ ht
   have HOK:=hdQ hok
   have HG:=hdQ hg
   have HB:=hdQ hb
   have hz:=hb.size
   have HR:=hdQ hr1
   have HDJ:=hdQ hdj
   clear ht hok hg hr1 hdj hb
   by_cases hlt:k<ps.length
   ·obtain ⟨b,off,rfl,hbh,hcell⟩:=HR.out.open_.2.2 qo
    have c1:wr.cell? ⟨b,off+k,none⟩=some (str ps[k]):=by rw [hcell k qo,Zfd hlt]
    have hxl:=HPS.out k hlt
    have i2:(k:Int)<ps.length:=qo
    clear hcell
    cases hv:parseI ps[k] with
    | none =>
     have HN:=qh (Za2 l=none) (by rw [HPL.out];exact parseTo_none hlt hv)
     generalize hx:ps[k]=x at *
     clear hx
     go_wp2_with fail
     refine (Zej _ _ qo (HE.out.step (by first|exact HB.out|exact bll))).mono ?_
     rintro e wA ⟨rfl,hbA⟩
     rw [hv]
     go_wp2_with fail
     rw [HN.out]
     exact bodyPost_ret (v:=.tuple #[.slice none 0 0,.bool false]) (by simp [results,Tryz.results132,go_sem]) rfl ⟨none,0,rfl,Zbu.none_ _ _ _,λx hx=>absurd hx (by simp [gOf]),Below.step hbA HB.out HB.out.size⟩
    | some v =>
     have HS:=hdQ (parseTo_succ hlt HT.out hv)
     generalize hx:ps[k]=x at *
     clear hx
     go_wp2_with fail
     refine (Zej _ _ qo (HE.out.step (by first|exact HB.out|exact bll))).mono ?_
     rintro e wA ⟨rfl,hbA⟩
     have zA:=hbA.size
     (try simp at zA)
     have HGA:=qh (Zah wA w.heap.size 3 1 B k d (ints o)) (Zah.step hbA HG.out)
     have HBA:=qh (Below w.heap.size w wA) (Below.step hbA HB.out HB.out.size)
     have HRA:=qh (RS wA 1 (some ⟨b,off,none⟩) ps.length pc (Zam ps)) (RS.step hbA HR.out)
     have hbB:b∉gOf B:=λhm=>HDJ.out b hm (by simp [gOf])
     clear hbA
     rw [hv]
     go_wp2_with (at_builtin;refine wpA (w.heap.size) Tryz.underlying24 T.infoInt (ints o) (ints [v]) (Zde _) ?_ ?_ ?_;exact (gwx HGA.out);exact (ltt 1);rintro A' c' w2 gA;have g1:=gA.1;have g2:=gA.2.1;have HF:=hdQ (Za5.far gA (b:=b) (by simp;omega) hbB).1;have HO:=hdQ gA.2.2.2.2;have gZ:=gA.2.2.2.1;(try simp at gZ);have HG2:=qh (Zah w2 w.heap.size 3 1 A' (k+1) c' (ints (o++[v]))) (by have e:ints (o++[v])=ints o++ints [v]:=qs;rw [e];exact g1);have HB2:=qh (Below w.heap.size w w2) (Below.trans bll g2);clear gA g1 g2)
     have HR2:=qh (RS w2 1 (some ⟨b,off,none⟩) ps.length pc (Zam ps)) (RS.farg (RS.alloc HRA.out _) (by simp;omega) (λx hx o=>by simp [gOf] at hx;subst hx;exact HF.out o))
     have HD2:=qh (∀ x,x∈gOf A'->x∉gOf (some (⟨b,off,none⟩:Addr))) (λx hx hm=>by
      simp [gOf] at hm;subst hm
      rcases HO.out with e|e
      ·rw [e] at hx;exact hbB hx
      ·rw [e] at hx;simp at hx;omega)
     go_roundw
     case rel=>exact ⟨k+1,o++[v],_,_,qo,qg,rfl,HS.out,by rw [List.length_append,HOK.out];rfl,HG2.out,HR2.out,HD2.out,HB2.out⟩
     case measure=>exact qn
   ·obtain rfl:k=ps.length:=by omega
    have HN:=qh (Za2 l=some o) (by rw [HPL.out];have:=HT.out;rwa [List.take_length] at this)
    have hol:o.length=ps.length:=HOK.out
    go_wp2_with fail
    rw [HN.out]
    exact bodyPost_ret (v:=.tuple #[.slice B o.length d,.bool true]) (by simp [results,Tryz.results132,go_sem,hol]) rfl ⟨B,d,rfl,by have:=HG.out.ownS;rw [<- hol] at this;exact this,HG.out.ge,HB.out⟩
end Go.Proofs.YticdknjoapdmeaaGreatDoor
namespace Go.Proofs.YticdknjoapdmeaaGreatDoor
set_option maxRecDepth 512
abbrev Zaq:=Int×List UInt8×Int×Int
def isDg (b:UInt8):Bool:=decide (48<=b)&&decide (b<=57)
def isLt (b:UInt8):Bool:=decide (97<=b)&&decide (b<=122)
def isSp (b:UInt8):Bool:=decide (b=32)||decide (b=10)
def symB:List UInt8:=[43,45,42,47,40,41,44,61,59]
def isSy (b:UInt8):Bool:=symB.contains b
def Zba (f:UInt8->Bool):List UInt8->Nat
 | []=>0
 | b::l=>if f b then Zba f l+1 else 0
def valN:List UInt8->Nat->Nat
 | [],n=>n
 | b::l,n=>valN l (10*n+(b.toNat-48))
def valD (l:List UInt8):Nat:=valN l 0
def numTok (l:List UInt8):Option (Nat×Nat) :=
 let d:=Zba isDg l
 if 4<d then none
 else if l[d]? = some 46 then
  let p:=Zba isDg (l.drop (d+1))
  if p<1∨4<p then none else some (d+1+p,valD (l.take d)*256+valD ((l.drop (d+1)).take p)*256 / 10 ^ p)
 else some (d,valD (l.take d)*256)
def Zau (l:List UInt8):Option (Int×Nat×Nat) :=
 match l with
 | []=>none
 | b::_ =>
  if isDg b then (numTok l).map λx=>(1,x.1,x.2)
  else if isLt b then
   let n:=Zba (λc=>isLt c||isDg c) l
   if 8<n then none else some (2,n,0)
  else if isSy b then some (3,1,0)
  else none
theorem Zey (f:UInt8->Bool) (l:List UInt8):Zba f l<=l.length:=by
 induction l with
 | nil=>exact Nat.le_refl _
 | cons b l ih=>unfold Zba;split<;>simp<;>omega
theorem spanN_pos {f:UInt8->Bool} {b:UInt8} {l:List UInt8} (h:f b=true):0<Zba f (b::l):=by unfold Zba;rw [if_pos h];omega
theorem spanN_in {f:UInt8->Bool} {l:List UInt8} {j:Nat} (h:j<Zba f l):∃ b,l[j]? = some b/\f b=true:=by
 induction l generalizing j with
 | nil=>simp [Zba] at h
 | cons b l ih =>
  unfold Zba at h
  by_cases hb:f b=true
  ·rw [if_pos hb] at h
   match j with
   | 0=>exact ⟨b,rfl,hb⟩
   | j+1=>exact ih (by omega)
  ·rw [if_neg hb] at h;omega
theorem spanN_end {f:UInt8->Bool} {l:List UInt8} {b:UInt8} (h:l[Zba f l]? = some b):f b=false:=by
 induction l with
 | nil=>simp at h
 | cons c l ih =>
  unfold Zba at h
  by_cases hb:f c=true
  ·rw [if_pos hb] at h;exact ih h
  ·rw [if_neg hb] at h
   obtain rfl:c=b:=by simpa using h
   simpa using hb
theorem Zfx {f:UInt8->Bool} {l:List UInt8} {n:Nat} (h1:∀ j,j<n->∃ b,l[j]? = some b/\f b=true) (h2:∀ b,l[n]? = some b->f b=false):Zba f l=n:=by
 rcases Nat.lt_trichotomy (Zba f l) n with h|h|h
 ·obtain ⟨b,hb,hf⟩:=h1 _ h
  rw [spanN_end hb] at hf;cases hf
 ·exact h
 ·obtain ⟨b,hb,hf⟩:=spanN_in h
  rw [h2 b hb] at hf;cases hf
theorem numTok_len {l:List UInt8} {n v:Nat} (h:numTok l=some (n,v)):n<=l.length/\Zba isDg l<=n:=by
 unfold numTok at h
 dsimp only at h
 split at h
 ·cases h
 ·split at h
  ·rename_i h46
   have hd:Zba isDg l<l.length:=by
    rcases Nat.lt_or_ge (Zba isDg l) l.length with h'|h'
    ·exact h'
    ·rw [List.getElem?_eq_none h'] at h46;cases h46
   split at h
   ·cases h
   ·have:=Zey isDg (l.drop (Zba isDg l+1))
    simp only [Option.some.injEq,Prod.mk.injEq,List.length_drop] at h this
    omega
  ·simp only [Option.some.injEq,Prod.mk.injEq] at h
   have:=Zey isDg l
   omega
theorem Zcf {l:List UInt8} {k:Int} {n v:Nat} (h:Zau l=some (k,n,v)):0<n/\n<=l.length:=by
 unfold Zau at h
 match l,h with
 | b::l,h =>
  simp only at h
  split at h
  ·rename_i hb
   obtain ⟨⟨n',v'⟩,hx,he⟩:=Option.map_eq_some_iff.1 h
   have h1:=numTok_len hx
   have h2:=spanN_pos (l:=l) hb
   simp only [Prod.mk.injEq] at he
   omega
  ·split at h
   ·rename_i hb
    split at h
    ·cases h
    ·simp only [Option.some.injEq,Prod.mk.injEq] at h
     have h1:=Zey (λc=>isLt c||isDg c) (b::l)
     have h2:=spanN_pos (f:=λc=>isLt c||isDg c) (b:=b) (l:=l) (by simp [hb])
     omega
   ·split at h
    ·simp only [Option.some.injEq,Prod.mk.injEq] at h
     simp only [List.length_cons];omega
    ·cases h
def tokz (src:List UInt8):Nat->Nat->List Zaq->Except Nat (List Zaq)
 | 0,_,l=>.ok l
 | n+1,at_,l =>
  match src[at_]? with
  | none=>.ok l
  | some b =>
   if isSp b then tokz src n (at_+1) l
   else match Zau (src.drop at_) with
    | none=>.error at_
    | some (k,m,v)=>tokz src n (at_+m) (l++[(k,(src.drop at_).take m,(v:Int),(at_:Int))])
def toksF (src:List UInt8):Except Nat (List Zaq) :=
 if 2000<src.length then .error 0
 else (tokz src (src.length+1) 0 []).map (· ++ [(0,[],0,(src.length:Int))])
theorem Zck {src:List UInt8} {n a:Nat} {l:List Zaq} {b:UInt8} (h:src[a]? = some b) (hb:isSp b=true):tokz src (n+1) a l=tokz src n (a+1) l:=by
 rw [tokz,h];simp [hb]
theorem Zfw {src:List UInt8} {n a:Nat} {l:List Zaq} {b:UInt8} (h:src[a]? = some b) (hb:isSp b=false) (hs:Zau (src.drop a)=none):tokz src (n+1) a l=.error a:=by
 rw [tokz,h];simp [hb,hs]
theorem Zex {src:List UInt8} {n a m v:Nat} {k:Int} {l:List Zaq} {b:UInt8} (h:src[a]? = some b) (hb:isSp b=false) (hs:Zau (src.drop a)=some (k,m,v)):tokz src (n+1) a l=tokz src n (a+m) (l++[(k,(src.drop a).take m,(v:Int),(a:Int))]):=by
 rw [tokz,h];simp [hb,hs]
theorem Zd0 {src:List UInt8} {n a:Nat} {l:List Zaq} (h:src.length<=a):tokz src n a l=.ok l:=by
 cases n with
 | zero=>rfl
 | succ n=>rw [tokz,List.getElem?_eq_none h]
theorem tokz_fuel {src:List UInt8}:∀ (n m a:Nat) (l:List Zaq),src.length<a+n->src.length<a+m->tokz src n a l=tokz src m a l:=by
 intro n
 induction n with
 | zero=>intro m a l h1 h2;rw [Zd0 (by omega),Zd0 (by omega)]
 | succ n ih =>
  intro m a l h1 h2
  rcases Nat.lt_or_ge a src.length with h|h
  ·match m with
   | 0=>omega
   | m+1 =>
    have hb:=List.getElem?_eq_getElem h
    cases hs:isSp src[a] with
    | true=>rw [Zck hb hs,Zck hb hs];exact ih _ _ _ (by omega) (by omega)
    | false =>
     cases hk:Zau (src.drop a) with
     | none=>rw [Zfw hb hs hk,Zfw hb hs hk]
     | some x =>
      obtain ⟨k,j,v⟩:=x
      have hj:=Zcf hk
      rw [Zex hb hs hk,Zex hb hs hk]
      exact ih _ _ _ (by omega) (by omega)
  ·rw [Zd0 h,Zd0 h]
def tk (T:List Zaq) (i:Nat):Zaq:=T.getD i (0,[],0,0)
def kd (T:List Zaq) (i:Nat):Int:=(tk T i).1
def tx (T:List Zaq) (i:Nat):List UInt8:=(tk T i).2.1
def nm (T:List Zaq) (i:Nat):Int:=(tk T i).2.2.1
def of_ (T:List Zaq) (i:Nat):Int:=(tk T i).2.2.2
def pk (T:List Zaq) (i:Nat):List UInt8:=if kd T i=3 then tx T i else []
inductive PR where
 | ok (v:Int) (at_:Nat) (ns:List Zac)
 | bad (o:Int)
 | out
def emit (T:List Zaq) (n:Zac) (a:Nat) (ns:List Zac):PR:=if ns.length=60 then .bad (of_ T (a-1)) else .ok ns.length a (ns++[n])
inductive PM where
 | bin (add:Bool)
 | loop (add:Bool) (v:Int)
 | fac
 | args (name:List UInt8) (as_:List Int)
def opS (add:Bool) (x:List UInt8):Int :=
 if add then (if x=[43] then 4 else if x=[45] then 5 else 0) else (if x=[42] then 6 else if x=[47] then 7 else 0)
def opd (add:Bool):PM:=if add then .bin false else .fac
def prs (T:List Zaq):Nat->PM->Nat->Nat->List Zac->PR
 | 0,_,_,_,_=>.out
 | n+1,.bin add,d,a,ns =>
  match prs T n (opd add) d a ns with
  | .ok v a1 n1=>prs T n (.loop add v) d a1 n1
  | .bad o=>.bad o
  | .out=>.out
 | n+1,.loop add v,d,a,ns =>
  if opS add (pk T a)=0 then .ok v a ns
  else match prs T n (opd add) d (a+1) ns with
   | .ok b a1 n1 =>
    match emit T (opS add (pk T a),[],0,[v,b]) a1 n1 with
    | .ok u a2 n2=>prs T n (.loop add u) d a2 n2
    | .bad o=>.bad o
    | .out=>.out
   | .bad o=>.bad o
   | .out=>.out
 | n+1,.fac,d,a,ns =>
  if 64<d then .bad (of_ T a)
  else if pk T a=[45] then
   match prs T n .fac (d+1) (a+1) ns with
   | .ok v a1 n1=>emit T (3,[],0,[v]) a1 n1
   | .bad o=>.bad o
   | .out=>.out
  else if pk T a=[40] then
   match prs T n (.bin true) (d+1) (a+1) ns with
   | .ok v a1 n1=>if pk T a1=[41] then .ok v (a1+1) n1 else .bad (of_ T a1)
   | .bad o=>.bad o
   | .out=>.out
  else if kd T a=1 then emit T (1,[],nm T a,[]) (a+1) ns
  else if kd T a=2 then
   if pk T (a+1)=[40] then prs T n (.args (tx T a) []) (d+1) (a+2) ns
   else emit T (2,tx T a,0,[]) (a+1) ns
  else .bad (of_ T a)
 | n+1,.args name l,d,a,ns =>
  if l=[]/\pk T a=[41] then emit T (8,name,0,[]) (a+1) ns
  else if l.length=3 then .bad (of_ T a)
  else match prs T n (.bin true) d a ns with
   | .ok v a1 n1 =>
    if pk T a1=[44] then prs T n (.args name (l++[v])) d (a1+1) n1
    else if pk T a1=[41] then emit T (8,name,0,l++[v]) (a1+1) n1
    else .bad (of_ T a1)
   | .bad o=>.bad o
   | .out=>.out
def asg (T:List Zaq) (N:Nat):Nat->Nat->List Zac->List Zaa->Option (Except Int Zae)
 | 0,_,_,_=>none
 | n+1,a,ns,l =>
  if kd T a=0 then some (.ok (ns,l))
  else if kd T a≠2 then some (.error (of_ T a))
  else if pk T (a+1)≠[61] then some (.error (of_ T (a+1)))
  else match prs T N (.bin true) 1 (a+2) ns with
   | .ok v a1 n1=>if pk T a1=[59] then asg T N n (a1+1) n1 (l++[(tx T a,v)]) else some (.error (of_ T a1))
   | .bad o=>some (.error o)
   | .out=>none
structure TokOk (T:List Zaq):Prop where
 pos:0<T.length
 last:kd T (T.length-1)=0
 inner:∀ i,i+1<T.length->kd T i≠0
theorem Zc9 {T:List Zaq} (h:TokOk T) {i:Nat} (hi:i<T.length) (hp:pk T i≠[]):i+1<T.length:=by
 rcases Nat.lt_or_ge (i+1) T.length with h'|h'
 ·exact h'
 ·have e:i=T.length-1:=by omega
  unfold pk at hp
  rw [e,h.last] at hp
  simp at hp
theorem kd_in {T:List Zaq} (h:TokOk T) {i:Nat} (hi:i<T.length) (hp:kd T i≠0):i+1<T.length:=by
 rcases Nat.lt_or_ge (i+1) T.length with h'|h'
 ·exact h'
 ·have e:i=T.length-1:=by omega
  rw [e,h.last] at hp
  exact absurd rfl hp
theorem opS_ne {add:Bool} {x:List UInt8} (h:opS add x≠0):x≠[]:=by
 rintro rfl
 cases add<;>simp [opS] at h
theorem emit_at {T:List Zaq} {n:Zac} {a a1:Nat} {ns n1:List Zac} {v:Int} (h:emit T n a ns=.ok v a1 n1):a1=a/\v=ns.length/\n1=ns++[n]/\ns.length≠60:=by
 unfold emit at h
 split at h
 ·cases h
 ·injection h with h1 h2 h3
  exact ⟨h2.symm,h1.symm,h3.symm,by assumption⟩
def mu:PM->Nat
 | .fac=>1
 | .bin false=>2
 | .bin true=>3
 | .loop _ _=>4
 | .args _ _=>4
def st:PM->Nat
 | .loop _ _=>0
 | _=>1
def PEnds (T:List Zaq) (m:PM) (a:Nat) (r:PR):Prop:=r ≠ .out/\∀ v a1 n1,r=.ok v a1 n1->a+st m<=a1/\a1<T.length
theorem PEnds.bad {T:List Zaq} {m:PM} {a:Nat} {o:Int}:PEnds T m a (.bad o):=⟨qs,qs⟩
theorem PEnds.emit {T:List Zaq} {m:PM} {a b:Nat} {n:Zac} {ns:List Zac} (h1:a+st m<=b) (h2:b<T.length):PEnds T m a (emit T n b ns):=by
 refine ⟨by unfold Go.Proofs.YticdknjoapdmeaaGreatDoor.emit;split<;>simp,λv a1 n1 h=>?_⟩
 obtain ⟨rfl,_⟩:=emit_at h
 exact ⟨h1,h2⟩
theorem PEnds.up {T:List Zaq} {m m':PM} {a b:Nat} {r:PR} (h:PEnds T m' b r) (hb:a+st m<=b+st m'):PEnds T m a r:=⟨h.1,λv a1 n1 e=>by have:=h.2 v a1 n1 e;omega⟩
theorem Zbq {T:List Zaq} (h:TokOk T):∀ (n:Nat) (m:PM) (d a:Nat) (ns:List Zac),a<T.length->mu m+4*(T.length-a)<=n->PEnds T m a (prs T n m d a ns):=by
 intro n
 induction n with
 | zero=>intro m d a ns ha hn;omega
 | succ n ih =>
  intro m d a ns ha hn
  have hop:∀ add,mu (opd add)+1=mu (.bin add)/\st (opd add)=1:=by intro add;cases add<;>exact ⟨rfl,rfl⟩
  match m with
  | .bin add =>
   have hm:=(hop add).1
   have hs:=(hop add).2
   have h1:=ih (opd add) d a ns ha qo
   rw [prs]
   cases hr:prs T n (opd add) d a ns with
   | out=>exact absurd hr h1.1
   | bad o=>exact .bad
   | ok v a1 n1 =>
    have h2:=h1.2 v a1 n1 hr
    rw [hs] at h2
    have hb:2<=mu (.bin add):=by cases add<;>simp [mu]
    have h3:=ih (.loop add v) d a1 n1 h2.2 (by show 4+_<=n;omega)
    exact h3.up (by show a+1<=a1+0;omega)
  | .loop add v =>
   rw [prs]
   split
   ·refine ⟨qs,λv1 a1 n1 e=>?_⟩
    injection e with e1 e2 e3
    subst e2
    exact ⟨Nat.le_refl _,ha⟩
   ·rename_i hne
    have hin:=Zc9 h ha (opS_ne hne)
    have hm:mu (opd add)<=2:=by cases add<;>simp [opd,mu]
    have hs:=(hop add).2
    have hn':4+4*(T.length-a)<=n+1:=hn
    have h1:=ih (opd add) d (a+1) ns hin qo
    cases hr:prs T n (opd add) d (a+1) ns with
    | out=>exact absurd hr h1.1
    | bad o=>exact .bad
    | ok b a1 n1 =>
     have h2:=h1.2 b a1 n1 hr
     rw [hs] at h2
     show PEnds T _ a (match emit T (opS add (pk T a),[],0,[v,b]) a1 n1 with | .ok u a2 n2=>prs T n (.loop add u) d a2 n2 | .bad o=>.bad o | .out=>.out)
     cases he:emit T (opS add (pk T a),[],0,[v,b]) a1 n1 with
     | out=>unfold emit at he;split at he<;>cases he
     | bad o=>exact .bad
     | ok u a2 n2 =>
      obtain ⟨rfl,_⟩:=emit_at he
      have h3:=ih (.loop add u) d a2 n2 h2.2 (by show 4+_<=n;omega)
      exact h3.up (by show a+0<=a2+0;omega)
  | .fac =>
   have hn':1+4*(T.length-a)<=n+1:=hn
   rw [prs]
   split
   ·exact .bad
   split
   ·rename_i hp
    have hin:=Zc9 h ha (by rw [hp];simp)
    have h1:=ih .fac (d+1) (a+1) ns hin (by show 1+_<=n;omega)
    cases hr:prs T n .fac (d+1) (a+1) ns with
    | out=>exact absurd hr h1.1
    | bad o=>exact .bad
    | ok v a1 n1 =>
     have h2:a+1+1<=a1/\a1<T.length:=h1.2 v a1 n1 hr
     exact .emit (by show a+1<=a1;omega) h2.2
   split
   ·rename_i hp
    have hin:=Zc9 h ha (by rw [hp];simp)
    have h1:=ih (.bin true) (d+1) (a+1) ns hin (by show 3+_<=n;omega)
    cases hr:prs T n (.bin true) (d+1) (a+1) ns with
    | out=>exact absurd hr h1.1
    | bad o=>exact .bad
    | ok v a1 n1 =>
     have h2:a+1+1<=a1/\a1<T.length:=h1.2 v a1 n1 hr
     show PEnds T _ a (if pk T a1=[41] then .ok v (a1+1) n1 else .bad (of_ T a1))
     split
     ·rename_i hq
      have hin2:=Zc9 h h2.2 (by rw [hq];simp)
      refine ⟨qs,λv1 a2 n2 e=>?_⟩
      injection e with e1 e2 e3
      subst e2
      exact ⟨by show a+1<=a1+1;omega,hin2⟩
     ·exact .bad
   split
   ·rename_i hk
    have hin:=kd_in h ha (by rw [hk];decide)
    exact .emit (Nat.le_refl _) hin
   split
   ·rename_i hk
    have hin:=kd_in h ha (by rw [hk];decide)
    split
    ·rename_i hp
     have hin2:=Zc9 h hin (by rw [hp];simp)
     have h1:=ih (.args (tx T a) []) (d+1) (a+2) ns hin2 (by show 4+_<=n;omega)
     exact h1.up (by show a+1<=a+2+1;omega)
    ·exact .emit (Nat.le_refl _) hin
   ·exact .bad
  | .args name l =>
   have hn':4+4*(T.length-a)<=n+1:=hn
   rw [prs]
   split
   ·rename_i hp
    have hin:=Zc9 h ha (by rw [hp.2];simp)
    exact .emit (Nat.le_refl _) hin
   split
   ·exact .bad
   ·have h1:=ih (.bin true) d a ns ha (by show 3+_<=n;omega)
    cases hr:prs T n (.bin true) d a ns with
    | out=>exact absurd hr h1.1
    | bad o=>exact .bad
    | ok v a1 n1 =>
     have h2:a+1<=a1/\a1<T.length:=h1.2 v a1 n1 hr
     show PEnds T _ a (if pk T a1=[44] then prs T n (.args name (l++[v])) d (a1+1) n1 else if pk T a1=[41] then emit T (8,name,0,l++[v]) (a1+1) n1 else .bad (of_ T a1))
     split
     ·rename_i hq
      have hin2:=Zc9 h h2.2 (by rw [hq];simp)
      have h3:=ih (.args name (l++[v])) d (a1+1) n1 hin2 (by show 4+_<=n;omega)
      exact h3.up (by show a+1<=a1+1+1;omega)
     split
     ·rename_i hq
      have hin2:=Zc9 h h2.2 (by rw [hq];simp)
      exact .emit (by show a+1<=a1+1;omega) hin2
     ·exact .bad
def Zc6 (T:List Zaq):Nat:=4*T.length+8
theorem asg_ends {T:List Zaq} (h:TokOk T) {N:Nat} (hN:Zc6 T<=N):∀ (n a:Nat) (ns:List Zac) (l:List Zaa),a<T.length->T.length-a<n->∃ r,asg T N n a ns l=some r:=by
 intro n
 induction n with
 | zero=>intro a ns l ha hn;omega
 | succ n ih =>
  intro a ns l ha hn
  rw [asg]
  split
  ·exact ⟨_,rfl⟩
  rename_i hk
  split
  ·exact ⟨_,rfl⟩
  split
  ·exact ⟨_,rfl⟩
  rename_i hk2 hp
  have hin:=kd_in h ha hk
  have hp2:pk T (a+1)=[61]:=Classical.not_not.1 hp
  have hin2:=Zc9 h hin (by rw [hp2];simp)
  unfold Zc6 at hN
  have h1:=Zbq h N (.bin true) 1 (a+2) ns hin2 (by show 3+_<=N;omega)
  cases hr:prs T N (.bin true) 1 (a+2) ns with
  | out=>exact absurd hr h1.1
  | bad o=>exact ⟨_,rfl⟩
  | ok v a1 n1 =>
   have h2:a+2+1<=a1/\a1<T.length:=h1.2 v a1 n1 hr
   show ∃ r,(if pk T a1=[59] then asg T N n (a1+1) n1 (l++[(tx T a,v)]) else some (.error (of_ T a1)))=some r
   split
   ·rename_i hq
    exact ih _ _ _ (Zc9 h h2.2 (by rw [hq];simp)) qo
   ·exact ⟨_,rfl⟩
def parT (T:List Zaq):Zae×Int :=
 match asg T (Zc6 T) (T.length+1) 0 [] [] with
 | some (.ok p)=>(p, -1)
 | some (.error o)=>(([],[]),o)
 | none=>(([],[]),0)
def parF (src:List UInt8):Zae×Int :=
 match toksF src with
 | .error o=>(([],[]),(o:Int))
 | .ok T=>parT T
theorem scanTok_kind {l:List UInt8} {k:Int} {n v:Nat} (h:Zau l=some (k,n,v)):k=1∨k=2∨k=3:=by
 unfold Zau at h
 match l,h with
 | b::l,h =>
  simp only at h
  split at h
  ·obtain ⟨⟨n',v'⟩,hx,he⟩:=Option.map_eq_some_iff.1 h
   simp only [Prod.mk.injEq] at he
   exact .inl he.1.symm
  ·split at h
   ·split at h
    ·cases h
    ·simp only [Option.some.injEq,Prod.mk.injEq] at h
     exact .inr (.inl h.1.symm)
   ·split at h
    ·simp only [Option.some.injEq,Prod.mk.injEq] at h
     exact .inr (.inr h.1.symm)
    ·cases h
theorem tokz_all {src:List UInt8} {Pt:Zaq->Prop} (hs:∀ a k m v,Zau (src.drop a)=some (k,m,v)->Pt (k,(src.drop a).take m,(v:Int),(a:Int))):∀ (n a:Nat) (l r:List Zaq),(∀ x∈l,Pt x)->tokz src n a l=.ok r->∀ x∈r,Pt x:=by
 intro n
 induction n with
 | zero=>intro a l r hl h;injection h with h;subst h;exact hl
 | succ n ih =>
  intro a l r hl h
  rcases Nat.lt_or_ge a src.length with ha|ha
  ·have hb:=List.getElem?_eq_getElem ha
   cases hsp:isSp src[a] with
   | true=>rw [Zck hb hsp] at h;exact ih _ _ _ hl h
   | false =>
    cases hk:Zau (src.drop a) with
    | none=>rw [Zfw hb hsp hk] at h;cases h
    | some x =>
     obtain ⟨k,m,v⟩:=x
     rw [Zex hb hsp hk] at h
     refine ih _ _ _ (λx hx=>?_) h
     rcases List.mem_append.1 hx with hx|hx
     ·exact hl x hx
     ·obtain rfl:=List.mem_singleton.1 hx
      exact hs a k m v hk
  ·rw [Zd0 ha] at h;injection h with h;subst h;exact hl
theorem toksF_ok {src:List UInt8} {T:List Zaq} (h:toksF src=.ok T):TokOk T:=by
 unfold toksF at h
 split at h
 ·cases h
 ·cases hz:tokz src (src.length+1) 0 [] with
  | error o=>rw [hz] at h;cases h
  | ok r =>
   rw [hz] at h
   have h2:r++[(0,[],0,(src.length:Int))]=T:=by injection h
   subst h2
   have hall:∀ x∈r,x.1≠(0:Int):=tokz_all (Pt:=λx=>x.1≠(0:Int)) (λa k m v hk=>by have:=scanTok_kind hk;show k≠0;omega) _ _ _ _ qs hz
   refine ⟨qs, ?_,λi hi=>?_⟩
   ·unfold kd tk;simp
   ·have hi':i<r.length:=by simp at hi;omega
    have e:(r++[((0:Int),([]:List UInt8),(0:Int),(src.length:Int))]).getD i (0,[],0,0)=r[i]:=by
     simp [List.getD,List.getElem?_append_left hi',hi']
    unfold kd tk
    rw [e]
    exact hall _ (List.getElem_mem hi')
theorem Zed (b:UInt8):isDg b=true↔48<=b.toNat/\b.toNat<=57:=by simp [isDg,UInt8.le_iff_toNat_le]
theorem isLt_nat (b:UInt8):isLt b=true↔97<=b.toNat/\b.toNat<=122:=by simp [isLt,UInt8.le_iff_toNat_le]
theorem Zf7 {b:UInt8} (h:¬ (48<=b.toNat/\b.toNat<=57)):isDg b=false:=by
 cases hd:isDg b with
 | false=>rfl
 | true=>exact absurd ((Zed b).1 hd) h
theorem isLt_not {b:UInt8} (h:¬ (97<=b.toNat/\b.toNat<=122)):isLt b=false:=by
 cases hd:isLt b with
 | false=>rfl
 | true=>exact absurd ((isLt_nat b).1 hd) h
theorem valN_snoc (l:List UInt8) (b:UInt8) (n:Nat):valN (l++[b]) n=10*valN l n+(b.toNat-48):=by
 induction l generalizing n with
 | nil=>rfl
 | cons c l ih=>exact ih _
theorem valD_succ {l:List UInt8} {k:Nat} {b:UInt8} (h:l[k]? = some b):valD (l.take (k+1))=10*valD (l.take k)+(b.toNat-48):=by
 have hk:k<l.length:=(List.getElem?_eq_some_iff.1 h).1
 rw [List.take_add_one,h]
 exact valN_snoc _ _ _
def DG (l:List UInt8) (k:Nat):Prop:=∀ j,j<k->∃ b,l[j]? = some b/\isDg b=true
theorem DG.zero (l:List UInt8):DG l 0:=λj h=>absurd h (by omega)
theorem DG.succ {l:List UInt8} {k:Nat} {b:UInt8} (h:DG l k) (hb:l[k]? = some b) (hd:48<=b.toNat/\b.toNat<=57):DG l (k+1):=by
 intro j hj
 by_cases e:j=k
 ·subst e;exact ⟨b,hb,(Zed b).2 hd⟩
 ·exact h j (by omega)
theorem DG.le {l:List UInt8} {k:Nat} (h:DG l k):k<=l.length:=by
 rcases Nat.lt_or_ge l.length k with h'|h'
 ·obtain ⟨b,hb,_⟩:=h l.length h'
  simp at hb
 ·exact h'
theorem DG.val {l:List UInt8} {k:Nat} (h:DG l k):valD (l.take k)<10 ^ k:=by
 induction k with
 | zero=>simp [valD,valN]
 | succ k ih =>
  obtain ⟨b,hb,hd⟩:=h k (by omega)
  have h1:=ih (λj hj=>h j (by omega))
  have h2:=(Zed b).1 hd
  rw [valD_succ hb,Nat.pow_succ]
  omega
theorem DG.span {l:List UInt8} {k:Nat} (h:DG l k):k<=Zba isDg l:=by
 rcases Nat.lt_or_ge (Zba isDg l) k with h'|h'
 ·obtain ⟨b,hb,hd⟩:=h _ h'
  rw [spanN_end hb] at hd;cases hd
 ·exact h'
theorem DG.span_end {l:List UInt8} {k:Nat} (h:DG l k) (he:l[k]? = none):Zba isDg l=k:=Zfx h (λb hb=>by rw [he] at hb;cases hb)
theorem DG.span_not {l:List UInt8} {k:Nat} {b:UInt8} (h:DG l k) (hb:l[k]? = some b) (hd:¬ (48<=b.toNat/\b.toNat<=57)):Zba isDg l=k:=Zfx h (λc hc=>by rw [hb] at hc;injection hc with hc;subst hc;exact Zf7 hd)
theorem numTok_big {l:List UInt8} (h:4<Zba isDg l):numTok l=none:=by unfold numTok;simp [h]
theorem numTok_int {l:List UInt8} {d:Nat} (hd:Zba isDg l=d) (h:¬ 4<d) (h46:l[d]? ≠ some 46):numTok l=some (d,valD (l.take d)*256):=by subst hd;unfold numTok;simp [h,h46]
theorem Zdu {l:List UInt8} {d p:Nat} (hd:Zba isDg l=d) (h46:l[d]? = some 46) (hp:Zba isDg (l.drop (d+1))=p) (h2:p<1∨4<p):numTok l=none:=by
 subst hd;subst hp;unfold numTok
 simp only [h46,h2,if_true,ite_self]
theorem numTok_dot {l:List UInt8} {d p:Nat} (hd:Zba isDg l=d) (h:¬ 4<d) (h46:l[d]? = some 46) (hp:Zba isDg (l.drop (d+1))=p) (h2:¬ (p<1∨4<p)):numTok l=some (d+1+p,valD (l.take d)*256+valD ((l.drop (d+1)).take p)*256 / 10 ^ p):=by
 subst hd;subst hp;unfold numTok
 dsimp only
 rw [if_neg h,if_pos h46,if_neg h2]
end Go.Proofs.YticdknjoapdmeaaGreatDoor
