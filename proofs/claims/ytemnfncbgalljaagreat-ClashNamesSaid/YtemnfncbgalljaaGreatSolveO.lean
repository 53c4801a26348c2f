/- Lemmas. No condition. -/
import Derived.Test.YtemnfncbgalljaaGreatS3
import Derived.Deep.RegionHeld3
import Derived.Deep.RegionLaw
import Derived.ScopeJumps
import Derived.WalkMore
namespace Go.Proofs.YtemnfncbgalljaaGreat
open Go.RowKit
set_option linter.all false
set_option maxRecDepth 100000
set_option maxHeartbeats 64000000
theorem Qcr (a:Int):∀u∈[Value.int .i64 a],u.oneCell'=true:=by
 intro u hu
 simp at hu
 subst hu
 rfl
theorem Q5l {P:Program} {a:Act} {w:World} {Q:E9z} {c rest:Code} (l:Nat) (I:Nat->Act->World->Prop) (hf:findLabel c l=some (Code.seq Code.skip rest))
 (pass:∀n a w,I n a w->rest.wp P (Exit.jump l (fun a' w'=>∃n',n'<n/\I n' a' w') Q) a w)
 (first:(∀n a w,I n a w->rest.wp P (Exit.jump l (fun a' w'=>∃n',I n' a' w') Q) a w)->c.wp P (Exit.jump l (fun a' w'=>∃n',I n' a' w') Q) a w):(Code.scope c).wp P Q a w:=by
 refine wp_scope_jumps l (fun a w=>∃n,I n a w) (fun a w=>leastOf (fun n=>I n a w)) hf (first fun n a w h=>wp_mono (pass n a w h) ?_) ?_
 · intro e a' w' hq
   cases e with
   | goto l'=>exact ⟨hq.1,by obtain ⟨n',_,h'⟩:=hq.2;exact ⟨n',h'⟩⟩
   | normal=>exact hq
   | exit id=>exact hq
   | ret=>exact hq
   | panic ch=>exact hq
   | outgrown=>exact hq
 · intro a w hI
   refine wp_seq (wp_skip ?_)
   refine wp_mono (pass _ a w (leastOf_spec hI).1) ?_
   intro e a' w' hq
   cases e with
   | goto l'=>
     obtain ⟨h1,n',hlt,h'⟩:=hq
     exact ⟨h1,⟨n',h'⟩,Nat.lt_of_le_of_lt ((leastOf_spec ⟨n',h'⟩).2 n' h') hlt⟩
   | normal=>exact hq
   | exit id=>exact hq
   | ret=>exact hq
   | panic ch=>exact hq
   | outgrown=>exact hq
theorem Waits.skip {n m nl:Nat} {F T:I9z} {X:B9y} {t f:Nat} {fs ws:List Nat} (h:Waits n m nl F T X t (f::fs) ws) (hs:∀j,j<m->X t j=true->X f j=true):Waits n m nl F T X t fs ws:=by
 intro c hc
 rcases h c hc with h1|⟨h1,h2⟩|h1
 · exact .inl h1
 · rcases List.mem_cons.1 h2 with h3|h3
   · refine .inr (.inr fun j hj hx=>?_)
     rw[h1] at hx
     rw[h3]
     exact hs j hj hx
   · exact .inr (.inl ⟨h1,h3⟩)
 · exact .inr (.inr h1)
def LeastAct (A A':Option Addr) (n nl c c' g0 gb:Nat) (v13:Value) (at_:Nat) (a:Act):Prop:=
 a.tmps.size=110/\a.defers=[]/\a.tmps.getD 0 undef=.slice A n c/\a.tmps.getD 1 undef=.slice A' nl c'/\a.tmps.getD 2 undef=undef/\a.tmps.getD 3 undef=undef/\a.tmps.getD 4 undef=.slice none 0 0/\a.tmps.getD 5 undef=.int .i64 0/\a.tmps.getD 7 undef=.slice (some ⟨g0,0,none⟩) n n/\a.tmps.getD 10 undef=.slice (some ⟨gb,0,none⟩) n n/\a.tmps.getD 13 undef=v13/\a.tmps.getD 15 undef=.int .i64 (at_:Int)
theorem Qmu (l:List Value) (h:l.length=110):l=(List.range 110).map fun k=>l.getD k undef:=by
 refine List.ext_getElem (by simpa using h) fun i h1 h2=>?_
 simp[List.getD,h1]
theorem LeastAct.frame {A A':Option Addr} {n nl c c' g0 gb:Nat} {v13:Value} {at_:Nat} {a:Act} (h:LeastAct A A' n nl c c' g0 gb v13 at_ a):
 ∃u:Nat->Value,a={ tmps:=#[.slice A n c,.slice A' nl c',undef,undef,.slice none 0 0,.int .i64 0,u 6,.slice (some ⟨g0,0,none⟩) n n,u 8,u 9,.slice (some ⟨gb,0,none⟩) n n,u 11,u 12,v13,u 14,.int .i64 (at_:Int),u 16,u 17,u 18,u 19,u 20,u 21,u 22,u 23,u 24,u 25,u 26,u 27,u 28,u 29,u 30,u 31,u 32,u 33,u 34,u 35,u 36,u 37,u 38,u 39,u 40,u 41,u 42,u 43,u 44,u 45,u 46,u 47,u 48,u 49,u 50,u 51,u 52,u 53,u 54,u 55,u 56,u 57,u 58,u 59,u 60,u 61,u 62,u 63,u 64,u 65,u 66,u 67,u 68,u 69,u 70,u 71,u 72,u 73,u 74,u 75,u 76,u 77,u 78,u 79,u 80,u 81,u 82,u 83,u 84,u 85,u 86,u 87,u 88,u 89,u 90,u 91,u 92,u 93,u 94,u 95,u 96,u 97,u 98,u 99,u 100,u 101,u 102,u 103,u 104,u 105,u 106,u 107,u 108,u 109],defers:=[] }:=by
 obtain ⟨hs,hd,h0,h1,h2,h3,h4,h5,h7,h10,h13,h15⟩:=h
 rcases a with ⟨⟨l⟩,ds⟩
 have hd':ds=[]:=hd
 subst hd'
 have e:=Qmu l (by simpa using hs)
 refine ⟨fun k=>l.getD k undef,?_⟩
 have g:∀k,(⟨⟨l⟩,[]⟩:Act).tmps.getD k undef=l.getD k undef:=fun k=>by by_cases h:k<l.length<;>simp[Array.getD,List.getD,h]
 simp only[g] at h0 h1 h2 h3 h4 h5 h7 h10 h13 h15
 have e2:l=[l.getD 0 undef,l.getD 1 undef,l.getD 2 undef,l.getD 3 undef,l.getD 4 undef,l.getD 5 undef,l.getD 6 undef,l.getD 7 undef,l.getD 8 undef,l.getD 9 undef,l.getD 10 undef,l.getD 11 undef,l.getD 12 undef,l.getD 13 undef,l.getD 14 undef,l.getD 15 undef,l.getD 16 undef,l.getD 17 undef,l.getD 18 undef,l.getD 19 undef,l.getD 20 undef,l.getD 21 undef,l.getD 22 undef,l.getD 23 undef,l.getD 24 undef,l.getD 25 undef,l.getD 26 undef,l.getD 27 undef,l.getD 28 undef,l.getD 29 undef,l.getD 30 undef,l.getD 31 undef,l.getD 32 undef,l.getD 33 undef,l.getD 34 undef,l.getD 35 undef,l.getD 36 undef,l.getD 37 undef,l.getD 38 undef,l.getD 39 undef,l.getD 40 undef,l.getD 41 undef,l.getD 42 undef,l.getD 43 undef,l.getD 44 undef,l.getD 45 undef,l.getD 46 undef,l.getD 47 undef,l.getD 48 undef,l.getD 49 undef,l.getD 50 undef,l.getD 51 undef,l.getD 52 undef,l.getD 53 undef,l.getD 54 undef,l.getD 55 undef,l.getD 56 undef,l.getD 57 undef,l.getD 58 undef,l.getD 59 undef,l.getD 60 undef,l.getD 61 undef,l.getD 62 undef,l.getD 63 undef,l.getD 64 undef,l.getD 65 undef,l.getD 66 undef,l.getD 67 undef,l.getD 68 undef,l.getD 69 undef,l.getD 70 undef,l.getD 71 undef,l.getD 72 undef,l.getD 73 undef,l.getD 74 undef,l.getD 75 undef,l.getD 76 undef,l.getD 77 undef,l.getD 78 undef,l.getD 79 undef,l.getD 80 undef,l.getD 81 undef,l.getD 82 undef,l.getD 83 undef,l.getD 84 undef,l.getD 85 undef,l.getD 86 undef,l.getD 87 undef,l.getD 88 undef,l.getD 89 undef,l.getD 90 undef,l.getD 91 undef,l.getD 92 undef,l.getD 93 undef,l.getD 94 undef,l.getD 95 undef,l.getD 96 undef,l.getD 97 undef,l.getD 98 undef,l.getD 99 undef,l.getD 100 undef,l.getD 101 undef,l.getD 102 undef,l.getD 103 undef,l.getD 104 undef,l.getD 105 undef,l.getD 106 undef,l.getD 107 undef,l.getD 108 undef,l.getD 109 undef]:=e
 rw[h0,h1,h2,h3,h4,h5,h7,h10,h13,h15] at e2
 exact congrArg (fun x:List Value=>(⟨⟨x⟩,[]⟩:Act)) e2
def Qa0 (w:World) (A A':Option Addr) (n nl c c' m:Nat) (L:N9z) (F T:I9z) (S:B9y) (k:Nat) (a':Act) (w':World):Prop:=
 ∃(g0 gb B3:Nat) (V VB:Nat->Value) (v13:Value) (at_:Nat) (WL:List Nat) (X:B9y),LeastAct A A' n nl c c' g0 gb v13 at_ a'/\OS w' w.heap.size (.slice (some ⟨g0,0,none⟩) n n) n V L X/\
  Own2 w' w.heap.size 70 3 (.slice (some ⟨gb,0,none⟩) n n) n VB (fun t=>(frl F T t nl).length) (fun t=>il (frl F T t nl))/\w'.ownsRow B3 3 1 v13 WL.length (il WL)/\
  (∀x,x∈WL->x<n)/\at_<=WL.length/\Found n m nl F T S X/\Waits n m nl F T X 0 [] (WL.drop at_)/\k=(WL.length - at_)+(n * m - tot X m n)/\WL.length+(n * m - tot X m n)<=n+n * m/\
  (∀t,t<n->∀b,(VB t).ownBlock=some b->b<B3)/\w.heap.size<=B3/\B3<=w'.heap.size/\Below w.heap.size w w'
theorem Qzw (A A':Option Addr) (n c c':Nat) (X Y:B9z) (w:World) (hn:n<=maxLen) (hX:Bits w A n X) (hY:Bits w A' n Y) (hs:∀j,j<n->Y j=true->X j=true):
 Calls Tryz.prog 250 #[.slice A n c,.slice A' n c'] w (Ret w (.bool false)):=by
 unfold maxLen at hn
 have HX:=Lib.hid hX
 have HY:=Lib.hid hY
 have HS:=Lib.hid hs
 clear hX hY hs
 go_enter Tryz.func250,Tryz.ntmps250
 go_wp2
 go_loopw [5,10] (fun u v wr=>∃(i:Nat),i<=n/\u=.bool false/\v=.int .i64 i/\Below w.heap.size w wr) (fun _ v _=>n - (intOf v).toNat)
 case atStart=>exact ⟨0,by omega,rfl,rfl,Below.refl _ _⟩
 case round=>
  obtain ⟨i,hi,rfl,rfl,hB⟩:=hrel
  have hz:=hB.size
  by_cases hlt:i<n
  · have hdi:decide ((i:Int)<n)=true:=by simp;omega
    obtain ⟨b,off,rfl,hb,hc⟩:=HX.out o9
    obtain ⟨b',off',rfl,hb',hc'⟩:=HY.out o9
    have c0:=(hB.cell (p:=⟨b,_,none⟩) hb).trans (hc i hlt)
    have c1:=(hB.cell (p:=⟨b',_,none⟩) hb').trans (hc' i hlt)
    have q:=HS.out i hlt
    clear hc hc' HX HY
    rcases Bool.eq_false_or_eq_true (Y i) with hy|hy
    · rw[q hy] at c0
      rw[hy] at c1
      clear hy q
      go_wp2
      go_roundw
      case rel=>exact ⟨i+1,by omega,rfl,by go_num,hB⟩
      case measure=>simp[intOf];omega
    · rw[hy] at c1
      clear hy q
      go_wp2
      go_roundw
      case rel=>exact ⟨i+1,by omega,rfl,by go_num,hB⟩
      case measure=>simp[intOf];omega
  · have:i=n:=by omega
    subst this
    have hdi:decide ((i:Int)<i)=false:=by simp
    clear hlt
    go_wp2
    go_ret
    exact ⟨rfl,hB⟩
theorem Qmj {o o':Option Nat} {B:Nat} (h:∀b,o=some b->b<B) (h':∀b,o'=some b->B<=b):o=none\/o≠o':=by
 cases o with
 | none=>exact .inl rfl
 | some k=>
   refine .inr fun q=>?_
   have:=h k rfl
   have:=h' k q.symm
   omega
theorem Qsu {w w':World} (h:w.grownBy w' none) (row:Option Nat):w.grownBy w' row:=⟨h.os,h.tape,h.output,h.size,fun k hk _=>h.block k hk (by simp)⟩
theorem Own2.other {w w':World} {B B' s m:Nat} {E e e':TypeId} {v u:Value} {n:Nat} {V:Nat->Value} {len:N9z} {xs:Nat->List Value} {ys:List Value} (h:Own2 w B E e v n V len xs) (h':w.ownsRow B' e' s u m ys)
 (hg:w.grownBy w' u.ownBlock) (hE:E≠e') (he:e≠e'):Own2 w' B E e v n V len xs:=
 h.kept hg (Q3g h.top h' hE) (fun i hi=>Q3g (h.row i hi) h' he)
theorem Qdc {w:World} {B E s n:Nat} {v:Value} {xs:List Value} (h:w.ownsRow B E s v n xs):∃A c,v=.slice A n c/\n<=c/\c<=maxLen:=by
 rcases h.2 with ⟨rfl,rfl⟩|⟨g,cap,cur,rfl,_,_,h4,h5,_⟩
 · exact ⟨none,0,rfl,by omega,by simp[maxLen]⟩
 · exact ⟨_,cap,rfl,h4,h5⟩
theorem Ql8 {W:World} {g:Nat} {u:Value} (h:W.cell? ⟨g,0,none⟩=some u):Reads W (g+1) 1 (some ⟨g,0,none⟩) 1 [u]:=by
 refine ⟨rfl,fun _=>⟨_,rfl,Nat.lt_succ_self _,fun j x hx=>?_⟩⟩
 match j,hx with
 | 0,hx=>simp at hx;subst hx;rw[add_plain];exact h
theorem Qn4 {w:World} {B:Nat} {V:Nat->Value} {g n k t f:Nat} {F T:I9z} {v':Value}
 (h:Own2 w B 70 3 (.slice (some ⟨g,0,none⟩) n n) n (Qhe V t v') (Qhe (fun t=>(frl F T t k).length) t ((frl F T t k).length+1)) (Qhe (fun t=>il (frl F T t k)) t (il (frl F T t k)++[.int .i64 (f:Int)])))
 (ht:(T k).toNat=t) (hf:(F k).toNat=f):Own2 w B 70 3 (.slice (some ⟨g,0,none⟩) n n) n (Qhe V t v') (fun t=>(frl F T t (k+1)).length) (fun t=>il (frl F T t (k+1))):=by
 refine h.congr2 fun i _=>?_
 by_cases e:i=t
 · subst e
   rw[Qkb,Qkb,frl,if_pos ht,hf,Qar]
   exact ⟨by simp,rfl⟩
 · rw[Qbb e,Qbb e,frl,if_neg (fun q=>e (q.symm.trans ht))]
   exact ⟨rfl,rfl⟩
theorem Qtx (A A':Option Addr) (n nl c c':Nat) (L:N9z) (S:B9y) (F T N Y:I9z) (w:World) (hn:n<=592) (hl:nl<=1152) (hL:∀i,i<n->L i=L 0) (h6:∀i,i<n->L i<=600) (hF:Qnv n nl F T) (h0:Hid (Qb2 n nl L F T=0))
 (hX:Sets w A n L S) (hY:Cons w A' nl F T N Y):
 Calls Tryz.prog 202 #[.slice A n c,.slice A' nl c'] w (fun e w'=>∃v V X,e=.returned (.tuple #[v,.int .i64 0])/\OS w' w.heap.size v n V L X/\IsSol n (L 0) nl F T S X/\Below w.heap.size w w'):=by
 have C1:=fun W (h:Sets W A n L S) (h':Cons W A' nl F T N Y)=>Qbv A A' n nl c c' L S F T N Y W (by simp only[maxLen];omega) (by simp only[maxLen];omega) h h'
 rw[h0.out] at C1
 have D1:=Lib.hid C1
 have HX:=Lib.hid hX
 have HY:=Lib.hid hY
 have HL:=Lib.hid hL
 have HF:=Lib.hid hF
 have H6:=Lib.hid h6
 clear hX hY hL hF h6 C1 h0
 obtain ⟨i0,hi0,hz0,hz1,hz2⟩:=info_parts Qso
 obtain ⟨i2,hi2,hx0,hx1,hx2⟩:=info_parts Qx0
 have hmk:=Q1x (P:=Tryz.prog) rfl n o9
 go_enter Tryz.func202,Tryz.ntmps202
 go_wp2
 refine Q5l 0 (Qa0 w A A' n nl c c' (L 0) L F T S) rfl ?_ ?_
 · intro kk a' w' hI
   obtain ⟨g0,gb,B3,V,VB,v13,at_,WL,X,hact,hO,hB2,hW,hWL,hat,hFd,hWt,rfl,hbd,hVB,hB3,hB3',hB⟩:=hI
   obtain ⟨uu,rfl⟩:=hact.frame
   have HO:=Lib.hid hO
   have HB2:=Lib.hid hB2
   have HW:=Lib.hid hW
   have HWL:=Lib.hid hWL
   have HFd:=Lib.hid hFd
   have HWt:=Lib.hid hWt
   have Hbd:=Lib.hid hbd
   have HVB:=Lib.hid hVB
   have hz:=hB.size
   have hnm:n * L 0<=592 * 600:=by
    rcases Nat.eq_zero_or_pos n with h|h
    · rw[h];omega
    · exact Nat.mul_le_mul hn (H6.out 0 h)
   obtain ⟨nm,Hnm⟩:=x9 (n * L 0)
   rw[<-Hnm] at hnm
   have HNM:=Lib.hid Hnm
   have hlen:WL.length<=592+nm:=by rw[<-Hnm] at hbd;omega
   clear hact hO hB2 hW hWL hFd hWt hbd hVB Hnm hmk D1
   by_cases hlt:at_<WL.length
   · obtain ⟨gw,cw,rfl,hgw1,hgw2,_,_⟩:=Qif HW.out o9
     obtain ⟨t,ht⟩:=x9 (WL[at_])
     have htn:t<n:=by rw[ht];exact HWL.out _ (List.getElem_mem hlt)
     have c0:w'.cell? ⟨gw,at_,none⟩=some (.int .i64 (t:Int)):=by rw[World.ownsRow.cellAt HW.out at_ o9,Q2w hlt,ht]
     have q1:((at_:Int)==WL.length)=false:=by simp;omega
     have c1:w'.cell? ⟨gb,t,none⟩=some (VB t):=by
      obtain ⟨_,_,e5,c5,_⟩:=Own2.at_ HB2.out htn
      cases e5
      exact c5
     obtain ⟨Rt,Ct,hVt,hct1,hct2⟩:=Qdc (HB2.out.row t htn)
     rw[hVt] at c1
     have HVt:=Lib.hid hVt
     have Ht:=Lib.hid ht
     have hfl:=Qgw F T t nl
     have HW0:Hid (Waits n (L 0) nl F T X t (frl F T t nl) (WL.drop (at_+1))):=by
      have h:=HWt.out.other t
      rw[List.drop_eq_getElem_cons hlt,<-ht] at h
      exact h.begin_
     clear hVt ht HWt
     have hat':at_<=355792:=by omega
     go_wp2
     go_loopw [13,87] (fun v u wr=>∃(q:Nat) (sfx:List Nat) (Z:B9y),q<=(frl F T t nl).length/\u=.int .i64 q/\OS wr w.heap.size (.slice (some ⟨g0,0,none⟩) n n) n V L Z/\
      Own2 wr w.heap.size 70 3 (.slice (some ⟨gb,0,none⟩) n n) n VB (fun t=>(frl F T t nl).length) (fun t=>il (frl F T t nl))/\wr.ownsRow B3 3 1 v (WL++sfx).length (il (WL++sfx))/\(∀x,x∈sfx->x<n)/\
      Found n (L 0) nl F T S Z/\Waits n (L 0) nl F T Z t ((frl F T t nl).drop q) ((WL++sfx).drop (at_+1))/\(WL++sfx).length+(n * L 0 - tot Z (L 0) n)<=WL.length+(n * L 0 - tot X (L 0) n)/\B3<=wr.heap.size/\Below w.heap.size w wr) (fun _ u _=>(frl F T t nl).length - (intOf u).toNat)
     case atStart=>exact ⟨0,[],X,by omega,rfl,HO.out,HB2.out,by rw[List.append_nil];exact HW.out,fun x hx=>by simp at hx,HFd.out,by rw[List.append_nil,List.drop_zero];exact HW0.out,by rw[List.append_nil];exact Nat.le_refl _,hB3',hB⟩
     case round=>
      obtain ⟨q,sfx,Z,hq,rfl,hO,hB2,hW,hsx,hFd,hWt,hbd,hQ,hB⟩:=hrel
      have hz:=hB.size
      obtain ⟨WN,hWN⟩:=x9 (WL++sfx)
      rw[<-hWN] at hW hWt hbd
      have hap:at_<WN.length:=by rw[hWN,List.length_append];omega
      have hget:WN[at_]=t:=by rw[Ht.out];simp only[hWN];exact List.getElem_append_left hlt
      have HGET:=Lib.hid hget
      have HWN:=Lib.hid hWN
      clear hWN hget
      have HO1:=Lib.hid hO
      have HB1:=Lib.hid hB2
      have HW1:=Lib.hid hW
      have HSX:=Lib.hid hsx
      have HFd1:=Lib.hid hFd
      have HWt1:=Lib.hid hWt
      have Hbd1:=Lib.hid hbd
      have hlen1:WN.length<=592+nm:=by
       have h1:=Hbd.out
       have h2:=HNM.out
       omega
      clear hO hB2 hW hsx hFd hWt hbd HO HB2 HW HFd HW0 c0 c1
      by_cases hlq:q<(frl F T t nl).length
      · have hdq:decide ((q:Int)<(frl F T t nl).length)=true:=by simp;omega
        obtain ⟨f,hf⟩:=x9 ((frl F T t nl)[q])
        have hff:f∈frl F T t nl:=by rw[hf];exact List.getElem_mem hlq
        obtain ⟨cc,hcc,hcT,hcF⟩:=Qo7 hff
        have hfn:f<n:=by have:=HF.out cc hcc;omega
        have hrow:=HB1.out.row t htn
        rw[HVt.out] at hrow
        obtain ⟨gr,cr,er,_,hgr2,_,_⟩:=Qif hrow o9
        cases er
        have c0:wr.cell? ⟨gr,q,none⟩=some (.int .i64 (f:Int)):=by rw[World.ownsRow.cellAt hrow q o9,Q2w hlq,hf]
        obtain ⟨gw',cw',rfl,hgw1',hgw2',_,_⟩:=Qif HW1.out o9
        have c1:wr.cell? ⟨gw',at_,none⟩=some (.int .i64 (t:Int)):=by
         rw[World.ownsRow.cellAt HW1.out at_ o9,Q2w hap,HGET.out]
        obtain ⟨Rf,Cf,hVf,hcf1,hcf2⟩:=Qdc (HO1.out.row f hfn)
        obtain ⟨Ro,Co,hVo,hco1,hco2⟩:=Qdc (HO1.out.row t htn)
        have hLtf:L t=L f:=by rw[HL.out t htn,HL.out f hfn]
        have hLf:L f=L 0:=HL.out f hfn
        rw[hLtf] at hVo
        have c2:wr.cell? ⟨g0,f,none⟩=some (.slice Rf (L f) Cf):=by
         obtain ⟨_,_,e5,c5,_⟩:=Own2.at_ HO1.out hfn
         cases e5
         rw[c5,hVf]
        have c3:wr.cell? ⟨g0,t,none⟩=some (.slice Ro (L f) Co):=by
         obtain ⟨_,_,e5,c5,_⟩:=Own2.at_ HO1.out htn
         cases e5
         rw[c5,hVo]
        have hXf:Bits wr Rf (L f) (Z f):=by
         obtain ⟨A5,c5,e5,_,_,h5⟩:=Q6e (HO1.out.row f hfn)
         rw[hVf] at e5
         cases e5
         exact h5
        have hXt:Bits wr Ro (L f) (Z t):=by
         obtain ⟨A5,c5,e5,_,_,h5⟩:=Q6e (HO1.out.row t htn)
         rw[hVo] at e5
         rw[hLtf] at e5
         cases e5
         rw[hLtf] at h5
         exact h5
        have h600:=H6.out f hfn
        have HD:=Lib.hid (show (frl F T t nl).drop q=f::(frl F T t nl).drop (q+1) from by rw[List.drop_eq_getElem_cons hlq,hf])
        have HWq:Hid (Waits n (L 0) nl F T Z t (f::(frl F T t nl).drop (q+1)) (WN.drop (at_+1))):=by
         have h:=HWt1.out
         rw[HD.out] at h
         exact h
        have HXf:=Lib.hid hXf
        have HXt:=Lib.hid hXt
        have HOB0:=Lib.hid (HO1.out.row f hfn)
        have HVf:=Lib.hid hVf
        have HVo:=Lib.hid hVo
        have HLf:=Lib.hid hLf
        clear hf hff hrow hVf hVo hXf hXt HD HWt1 hLf hLtf
        by_cases hs:∃j,j<L 0/\Z t j=true/\Z f j=false
        · obtain ⟨j0,hj0,hs1,hs2⟩:=hs
          have hft:f≠t:=by
           intro e
           rw[<-e,hs2] at hs1
           cases hs1
          have HN:=Lib.hid (show ∃j,j<L 0/\Z t j=true/\Z f j=false from ⟨j0,hj0,hs1,hs2⟩)
          have HN':=Lib.hid (show ∃j,j<L f/\Z t j=true/\Z f j=false from ⟨j0,by have:=HLf.out;omega,hs1,hs2⟩)
          have hLpos:0<L f:=by have:=HLf.out;omega
          have hrf:=HOB0.out
          rw[HVf.out] at hrf
          obtain ⟨gf,cf,ef,hgf1,hgf2,_,_⟩:=Qif hrf hLpos
          cases ef
          have hOB:OB wr w.heap.size gf (L f) Cf (Z f):=hrf
          have hto:∀b off,0<L f->Ro=some ⟨b,off,none⟩->b≠gf:=by
           intro b off _ e
           have hi:=HO1.out.inj f t hfn htn hft
           rw[HVf.out,HVo.out,e] at hi
           rcases hi with hi|hi
           · cases hi
           · intro q;exact hi (by rw[q];rfl)
          have HOBf:=Lib.hid hOB
          have HTO:=Lib.hid hto
          have HWm:=Lib.hid (HWq.out.more hft)
          have HFj:=Lib.hid (HFd1.out.join hcc HF.out hcT hcF)
          have HLEN:Hid ((WN++[f]).length+(n * L 0 - tot (Qzc Z f t) (L 0) n)<=WL.length+(n * L 0 - tot X (L 0) n)):=by
           have h1:=Hbd1.out
           have h2:=Quu (k:=0) (X:=Z) (t:=t) hfn HN.out
           have h3:=Qa9 (Qzc Z f t) (L 0) n
           unfold Hid
           rw[List.length_append,List.length_singleton]
           omega
          have hne1:some gw'≠some gf:=by
           have h:=Q3g HW1.out hrf (by decide)
           rcases h with h|h
           · cases h
           · exact h
          have hne2:some g0≠some gf:=by
           have h:=Q3g HO1.out.top hrf (by decide)
           rcases h with h|h
           · cases h
           · exact h
          have HNE1:=Lib.hid hne1
          have HNE2:=Lib.hid hne2
          clear hs1 hs2 hj0 hrf hOB hto hft hne1 hne2
          go_wp2
          go_region_held3 (fun w'=>w'.cell? ⟨gw',at_,none⟩=some (.int .i64 (t:Int))/\w'.cell? ⟨g0,f,none⟩=some (.slice (some ⟨gf,0,none⟩) (L f) Cf)/\w'.cell? ⟨g0,t,none⟩=some (.slice Ro (L f) Co)) (first|go_keep|((try dsimp only);(repeat' apply And.intro)<;>(first|assumption|(go_simp;done))))
           (first
             | (go_at_call 250
                refine (Qt0 Ro w.heap.size gf (L f) Cf Co (Z f) (Z t) _ (by first|exact HOBf.out|exact HOBf.out.drew) (by first|exact HXt.out|exact HXt.out.drew) HTO.out).mono ?_
                rintro e w2 ⟨m0,rfl,hm0,hob2,hg2⟩
                obtain rfl:m0=true:=hm0.2 HN'.out
                have hg3:wr.grownBy w2 (some gf):=⟨hg2.os,hg2.tape,hg2.output,hg2.size,hg2.block⟩
                have d0:w2.cell? ⟨gw',at_,none⟩=some (.int .i64 (t:Int)):=hg3.cell c1 HNE1.out
                have d1:w2.cell? ⟨g0,f,none⟩=some (.slice (some ⟨gf,0,none⟩) (L f) Cf):=hg3.cell c2 HNE2.out
                have d2:w2.cell? ⟨g0,t,none⟩=some (.slice Ro (L f) Co):=hg3.cell c3 HNE2.out
                have hz2:=hg3.size
                have HO2:Hid (OS w2 w.heap.size (.slice (some ⟨g0,0,none⟩) n n) n V L (Qzc Z f t)):=(Own2.turn HO1.out hfn (by rw[HVf.out];exact hg3) (ys:=bl (L f) (fun j=>Z f j||Z t j)) (by rw[HVf.out];exact hob2)).congr fun x hx=>by
                 unfold Qzc
                 by_cases e:x=f
                 · subst e;rw[Qkb,Qkb]
                 · rw[Qbb e,Qbb e]
                have HB2:=Lib.hid (Own2.other HB1.out (HO1.out.row f hfn) (by rw[HVf.out];exact hg3) (by decide) (by decide))
                have HW2:=Lib.hid (World.ownsRow.kept HW1.out hg3 (.inr HNE1.out))
                have hB2:Below w.heap.size w w2:=hB.grown hg3 hz (fun k hk=>by injection hk with hk;omega)
                clear hm0 hob2 hg2 hg3)
             | fail)
          all_goals
           go_wp2_with (first
            | (at_builtin
               refine Qsc _ rfl (.tmp 103) (.tmp 105) _ rfl B3 3 i2 _ 1 8 Tryz.underlying70 hi2 hx0 hx1 hx2 rfl o9 (.slice (some ⟨gw',0,none⟩) WN.length cw') WN.length (il WN) rfl (HW2.out.alloc _)
                (w2.heap.size+1) (some ⟨_,0,none⟩) 1 1 [.int .i64 (f:Int)] rfl (Qpr rfl o9) (Qcr _) (by simp only[maxLen];omega) o9 (by first|omega|(simp;done)|(simp;omega)) ?_
               intro v3 w3 hown3 hg3 hat3
               rw[Qar] at hown3
               have HW4:=Lib.hid hown3
               have HB4:=Lib.hid ((HB2.out.alloc _).kept hg3 (Q3g HB2.out.top HW2.out (by decide)) (fun t ht=>Qmj (HVB.out t ht) (fun b hb=>(HW2.out.lt b hb).1)))
               have HO4:=Lib.hid (Own2.other (Own2.alloc HO2.out _) (HW2.out.alloc _) hg3 (by decide) (by decide))
               have hB4:Below w.heap.size w w3:=(hB2.alloc hB2.size _).grown hg3 (by have:=hB2.size;simp;omega) (fun g hg=>Nat.le_trans hB3 (HW2.out.lt g hg).1)
               have hQ4:B3<=w3.heap.size:=by have:=hg3.size;simp at this;omega
               clear hown3 hg3 hat3 hi2 hx0 hx1 hx2)
            | fail)
           go_roundw
           case rel=>exact ⟨q+1,sfx++[f],Qzc Z f t,by omega,by go_num,HO4.out,HB4.out,by rw[<-List.append_assoc,<-HWN.out,List.length_append];exact HW4.out,(fun x hx=>by
            rcases List.mem_append.1 hx with h|h
            · exact HSX.out x h
            · simp at h;subst h;exact hfn),HFj.out,by rw[<-List.append_assoc,<-HWN.out,List.drop_append_of_le_length o9];exact HWm.out,by rw[<-List.append_assoc,<-HWN.out];exact HLEN.out,hQ4,hB4⟩
           case measure=>simp[intOf];omega
        · have hsub:∀j,j<L f->Z t j=true->Z f j=true:=by
           intro j hj h
           cases hz:Z f j with
           | true=>rfl
           | false=>exact absurd ⟨j,by have:=HLf.out;omega,h,hz⟩ hs
          have C0:=Lib.hid (fun y:Later wr=>Qzw Rf Ro (L f) Cf Co (Z f) (Z t) y.wd (by simp only[maxLen];omega) (HXf.out.later y) (HXt.out.later y) hsub)
          have d0:=Later.cell c1 hgw2'
          have d1:=Later.cell c2 (HO1.out.top.lt _ rfl).2
          have d2:=Later.cell c3 (HO1.out.top.lt _ rfl).2
          have HWn:=Lib.hid (HWq.out.skip (fun j hj=>hsub j (by have:=HLf.out;omega)))
          clear hs hsub
          go_wp2
          refine Qhg (by kernel_rfl) (by kernel_rfl) ?_
          repeat go_big_quiet_step (((go_at_call 250;exact Later.call (C0.out _))))
          refine wpQuiet_nil ?_
          rintro _ ⟨x,rfl⟩
          go_wp2
          go_roundw
          case rel=>exact ⟨q+1,sfx,Z,by omega,by go_num,Own2.below HO1.out x.below,Own2.below HB1.out x.below,by rw[<-HWN.out];exact World.ownsRow.kept HW1.out (Qaf x.below) (Q9k _),HSX.out,HFd1.out,by rw[<-HWN.out];exact HWn.out,by rw[<-HWN.out];exact Hbd1.out,Nat.le_trans hQ x.below.size,hB.trans (x.below.mono hz)⟩
          case measure=>simp[intOf];omega
      · have hqe:q=(frl F T t nl).length:=by omega
        have hdq:decide ((q:Int)<(frl F T t nl).length)=false:=by simp;omega
        have HWe:Hid (Waits n (L 0) nl F T Z 0 [] (WN.drop (at_+1))):=by
         have h:=HWt1.out
         rw[hqe,List.drop_length] at h
         exact h.other 0
        have HSall:Hid (∀x,x∈WN->x<n):=by
         intro x hx
         rw[HWN.out] at hx
         rcases List.mem_append.1 hx with h|h
         · exact HWL.out x h
         · exact HSX.out x h
        have hle:at_+1<=WN.length:=by omega
        clear hlq HWt1
        go_wp2
        go_step3
        refine ⟨rfl,WN.length - (at_+1)+(n * L 0 - tot Z (L 0) n),?_,g0,gb,B3,V,VB,_,at_+1,WN,Z,⟨rfl,rfl,rfl,rfl,rfl,rfl,rfl,rfl,rfl,rfl,rfl,rfl⟩,HO1.out,HB1.out,HW1.out,HSall.out,hle,HFd1.out,HWe.out,rfl,Nat.le_trans Hbd1.out Hbd.out,HVB.out,hB3,hQ,hB⟩
        have:=Hbd1.out
        omega
   · have:at_=WL.length:=by omega
     subst this
     obtain ⟨R,C,rfl,-,-⟩:=Qdc HW.out
     have q1:((WL.length:Int)==WL.length)=true:=by simp
     have HSol:Hid (IsSol n (L 0) nl F T S X):=by
      have h:=HWt.out
      rw[List.drop_length] at h
      exact HFd.out.sol h
     obtain ⟨A2,c2,e2,_,_,hs⟩:=OS.sets HO.out
     cases e2
     clear hs hlt
     go_wp2
     simp only[Exit.jump]
     go_ret2
     exact ⟨_,V,X,rfl,HO.out,HSol.out,hB⟩
 · intro PASS0
   have PASS:=Lib.hid PASS0
   clear PASS0
   go_wp2_with fail
   refine (D1.out _ (HX.out.below' (by repeat (first|exact Below.refl _ _|(refine Below.setCell ?_ (by first|omega|(simp;done)|(simp;omega)) _)|(refine Below.alloc ?_ (by first|omega|(simp;done)|(simp;omega)) _)|refine Below.drew ?_))) (HY.out.below' (by repeat (first|exact Below.refl _ _|(refine Below.setCell ?_ (by first|omega|(simp;done)|(simp;omega)) _)|(refine Below.alloc ?_ (by first|omega|(simp;done)|(simp;omega)) _)|refine Below.drew ?_)))).mono ?_
   rintro e w1 ⟨rfl,hb1⟩
   have hB1:Below w.heap.size w w1:=Below.call (by repeat (first|exact Below.refl _ _|(refine Below.setCell ?_ (by first|omega|(simp;done)|(simp;omega)) _)|(refine Below.alloc ?_ (by first|omega|(simp;done)|(simp;omega)) _)|refine Below.drew ?_)) hb1
   have hS1:w.heap.size<=w1.heap.size:=hB1.size
   obtain ⟨hc1,hf1⟩:=Q86 hb1
   clear hc1 hf1 D1
   have HM:=Lib.hid (Own2.made (w:=w1) (B:=w.heap.size) (E:=103) (e:=4) n hS1 (by simp only[maxLen];omega) Qdi)
   go_wp2
   clear hmk
   go_loopw [29] (fun v wr=>∃(i:Nat) (V:Nat->Value),i<=n/\v=.int .i64 i/\Own2 wr w.heap.size 103 4 (.slice (some ⟨w1.heap.size,0,none⟩) n n) n V (Q16 i L 0) (Q16 i (fun j=>bl (L j) (S j)) [])/\w1.heap.size<wr.heap.size/\Below w.heap.size w wr) (fun v _=>n - (intOf v).toNat)
   case atStart=>exact ⟨0,_,by omega,rfl,HM.out.congr2 (fun j _=>⟨rfl,rfl⟩),by simp,hB1.alloc hS1 _⟩
   case round=>
    obtain ⟨i,V,hi,rfl,hO,hgz,hB⟩:=hrel
    have hz:=hB.size
    have HO:=Lib.hid hO
    clear hO HM
    by_cases hlt:i<n
    · have hdi:decide ((i:Int)<n)=true:=by simp;omega
      obtain ⟨b,off,rfl,hb,hc⟩:=HX.out o9
      obtain ⟨R,C,e0,hl0,hX0⟩:=hc i hlt
      have c0:=(hB.cell (p:=⟨b,_,none⟩) hb).trans e0
      have hl6:=H6.out i hlt
      have hbz:b<wr.heap.size:=by omega
      have HR:=Lib.hid (hX0.reads.below hB)
      clear hc HX e0 hX0
      go_wp2_with (first
       | (at_builtin
          refine Qsc _ rfl (.tmp 36) (.tmp 37) _ rfl wr.heap.size 4 i0 _ 1 1 Tryz.underlying103 hi0 hz0 hz1 hz2 rfl o9 (.slice (some ⟨wr.heap.size,0,none⟩) 0 0) 0 [] rfl (World.ownsRow_made wr #[] 0 (Nat.le_refl _) (by decide) (by simp))
           w.heap.size R (L i) C (bl (L i) (S i)) rfl (HR.out.alloc o9 _) Qb7 (by simp only[maxLen];omega) o9 (by first|omega|(simp;done)|(simp;omega)) ?_
          intro v1 w2 hown1 hg1 hat1
          have hB2:Below wr.heap.size wr w2:=((Below.refl _ _).alloc (Nat.le_refl _) _).grown hg1 (by first|omega|(simp;done)|(simp;omega)) (by simp[Value.ownBlock])
          have hz2':=hB2.size
          simp only[Nat.zero_add,List.nil_append] at hown1
          obtain ⟨R1,C1,rfl,-,-,-⟩:=Q6e hown1
          have HP:=Lib.hid (HO.out.put (w1:=w2) hlt (Qsu (Qaf hB2) _) (Q4n hown1 hz) (.inr (fun k hk=>(hown1.lt k hk).1)))
          have HK:∃u,w2.cell? ⟨w1.heap.size,i,none⟩=some u/\w2.frozen? ⟨w1.heap.size,i,none⟩=false:=by
           obtain ⟨_,_,e2,c2,f2,_⟩:=Own2.at_ (HO.out.below hB2) hlt
           cases e2
           exact ⟨_,c2,f2⟩
          obtain ⟨u,c2,f2⟩:=HK
          have hB3:Below w.heap.size w w2:=hB.trans (hB2.mono hz)
          have hgz2:w1.heap.size<w2.heap.size:=by omega
          clear hown1 hg1 hat1 hi0 hz0 hz1 hz2)
       | fail)
      go_roundw
      case rel=>exact ⟨i+1,_,by omega,by go_num,HP.out.congr2 (fun j _=>⟨Qgu j,Qgu (f:=fun j=>bl (L j) (S j)) j⟩),by simpa [World.setCell] using hgz2,hB3.setCell (p:=⟨w1.heap.size,i,none⟩) hS1 _⟩
      case measure=>simp[intOf];omega
    · have:i=n:=by omega
      subst this
      have hdi:decide ((i:Int)<i)=false:=by simp
      have HS:Hid (OS wr w.heap.size (.slice (some ⟨w1.heap.size,0,none⟩) i i) i V L S):=HO.out.congr2 (fun j hj=>⟨Qzz hj,Qzz hj⟩)
      clear hlt HO hi0 hz0 hz1 hz2
      obtain ⟨wo,ho⟩:=x9 (wr:World)
      rw[<-ho] at hB hz HS hgz⊢
      clear ho
      have hz0:w.heap.size<=wo.heap.size:=hz
      have hmk2:=Qyu (P:=Tryz.prog) rfl i o9
      have HM2:=Lib.hid (Own2.made (w:=wo) (B:=w.heap.size) (E:=70) (e:=3) i hz (by simp only[maxLen];omega) Qhq)
      go_wp2
      clear hmk2
      go_loopw [46] (fun v wr=>∃(k:Nat) (VB:Nat->Value),k<=nl/\v=.int .i64 k/\Own2 wr w.heap.size 70 3 (.slice (some ⟨wo.heap.size,0,none⟩) i i) i VB (fun t=>(frl F T t k).length) (fun t=>il (frl F T t k))/\OS wr w.heap.size (.slice (some ⟨w1.heap.size,0,none⟩) i i) i V L S/\Below w.heap.size w wr) (fun v _=>nl - (intOf v).toNat)
      case atStart=>exact ⟨0,_,by omega,rfl,HM2.out,Own2.alloc HS.out _,hB.alloc hz _⟩
      case round=>
       obtain ⟨k,VB,hk,rfl,hO2,hO,hB⟩:=hrel
       have hz:=hB.size
       have HB2:=Lib.hid hO2
       have HO:=Lib.hid hO
       clear hO hO2 HM2 HS
       by_cases hlt:k<nl
       · have hdk:decide ((k:Int)<nl)=true:=by simp;omega
         obtain ⟨b,off,rfl,hb,hc⟩:=HY.out o9
         obtain ⟨e0,e1,e2,e3⟩:=hc k hlt
         obtain ⟨g1,g2,g3,g4⟩:=HF.out k hlt
         obtain ⟨f,hf⟩:∃f:Nat,F k=f:=⟨(F k).toNat,by omega⟩
         obtain ⟨t,ht⟩:∃t:Nat,T k=t:=⟨(T k).toNat,by omega⟩
         rw[hf] at e0 g2
         rw[ht] at e1 g4
         have hfi:f<i:=by omega
         have hti:t<i:=by omega
         have c0:=(hB.cell (p:=⟨b,_,none⟩) hb).trans e0
         have c1:=(hB.cell (p:=⟨b,_,none⟩) hb).trans e1
         have c2:=(hB.cell (p:=⟨b,_,none⟩) hb).trans e2
         have c3:=(hB.cell (p:=⟨b,_,none⟩) hb).trans e3
         have hbz:b<wr.heap.size:=by omega
         have Hf:=Lib.hid hf
         have Ht:=Lib.hid ht
         have c4:wr.cell? ⟨wo.heap.size,t,none⟩=some (VB t)/\wo.heap.size<wr.heap.size:=by
          obtain ⟨_,_,e5,c5,_,_,h6,_⟩:=Own2.at_ HB2.out hti
          cases e5
          exact ⟨c5,h6⟩
         obtain ⟨c4,hgb⟩:=c4
         have hfl:=Qgw F T t k
         clear hc e0 e1 e2 e3 g1 g2 g3 g4 hf ht
         go_wp2
         go_region_law
          (first
            | (refine Qll _ (by rfl) (.tmp 57) (.tmp 60) _ (by rfl) w.heap.size 3 i2 _ 1 8 Tryz.underlying70 hi2 hx0 hx1 hx2 (by rfl) o9 (VB t) (frl F T t k).length (il (frl F T t k)) (by rfl) (by first|exact (HB2.out.row t hti).alloc _|exact own_drew ((HB2.out.row t hti).alloc _)|exact ((HB2.out.row t hti).alloc _).alloc _|exact own_drew (((HB2.out.row t hti).alloc _).alloc _))
                _ (some ⟨_,0,none⟩) 1 1 [.int .i64 f] (by rfl) (Ql8 (by go_simp)) (Qcr _) (by simp only[maxLen];omega) o9 (by first|omega|(simp;done)|(simp;omega)) ?_
               intro v2 w2 hown2 hg2 hat2
               obtain ⟨R2,C2,rfl,-,-⟩:=Qdc hown2
               have hs2:wr.heap.size<w2.heap.size:=by have:=hg2.size;simp at this;omega
               have d0:w2.cell? ⟨wr.heap.size,0,none⟩=some (.int .i64 f):=hg2.cell (by go_simp) (by intro h;have:=((HB2.out.row t hti).lt _ h.symm).2;simp at this)
               have d1:w2.cell? ⟨wr.heap.size,1,none⟩=some (.int .i64 t):=hg2.cell (by go_simp) (by intro h;have:=((HB2.out.row t hti).lt _ h.symm).2;simp at this)
               have d2:w2.cell? ⟨wo.heap.size,t,none⟩=some (VB t):=hg2.cell (by go_simp) (by intro h;rcases HB2.out.rowne hti with q|q;(rw[q] at h;cases h);exact q (by rw[<-h];rfl))
               have HP:=Lib.hid (Own2.put (by first|exact HB2.out.alloc _|exact Own2.drew (HB2.out.alloc _)|exact (HB2.out.alloc _).alloc _|exact Own2.drew ((HB2.out.alloc _).alloc _)) hti hg2 hown2 (hat2.imp id (fun q k hk=>by rw[q] at hk;injection hk with hk;omega)))
               have f2:w2.frozen? ⟨wo.heap.size,t,none⟩=false:=World.ownsRow.frozenAt (World.ownsRow.kept (by first|exact HB2.out.top.alloc _|exact own_drew (HB2.out.top.alloc _)|exact (HB2.out.top.alloc _).alloc _|exact own_drew ((HB2.out.top.alloc _).alloc _)) hg2 (HB2.out.topne hti)) t
               have HO2:=Lib.hid (Own2.other (Own2.other (u:=VB t) (by first|exact (Own2.alloc HO.out _)|exact Own2.drew ((Own2.alloc HO.out _))|exact ((Own2.alloc HO.out _)).alloc _|exact Own2.drew (((Own2.alloc HO.out _)).alloc _)) (by first|exact (HB2.out.row t hti).alloc _|exact own_drew ((HB2.out.row t hti).alloc _)|exact ((HB2.out.row t hti).alloc _).alloc _|exact own_drew (((HB2.out.row t hti).alloc _).alloc _)) hg2 (by decide) (by decide))
                (World.ownsRow.kept (by first|exact HB2.out.top.alloc _|exact own_drew (HB2.out.top.alloc _)|exact (HB2.out.top.alloc _).alloc _|exact own_drew ((HB2.out.top.alloc _).alloc _)) hg2 (HB2.out.topne hti))
                (World.ownsRow.stored (World.ownsRow.kept (by first|exact HB2.out.top.alloc _|exact own_drew (HB2.out.top.alloc _)|exact (HB2.out.top.alloc _).alloc _|exact own_drew ((HB2.out.top.alloc _).alloc _)) hg2 (HB2.out.topne hti)) t (.slice R2 ((frl F T t k).length+1) C2)).2 (by decide) (by decide))
               have hB4:Below w.heap.size w w2:=Below.grown (by repeat (first|exact hB|(refine Below.alloc ?_ (by first|omega|(simp;done)|(simp;omega)) _)|refine Below.drew ?_)) hg2 (by first|omega|(simp;done)|(simp;omega)) (fun g hg=>((HB2.out.row t hti).lt g hg).1)
               clear hown2 hg2 hat2))
         all_goals
          go_wp2
          go_roundw
          case rel=>exact ⟨k+1,_,by omega,by go_num,Qn4 HP.out (by rw[Ht.out];simp) (by rw[Hf.out];simp),HO2.out,hB4.setCell (p:=⟨wo.heap.size,t,none⟩) hz0 _⟩
          case measure=>simp[intOf];omega
       · have:k=nl:=by omega
         subst this
         have hdk:decide ((k:Int)<k)=false:=by simp
         clear hlt
         obtain ⟨wp,ho⟩:=x9 (wr:World)
         rw[<-ho] at hB hz HB2 HO⊢
         clear ho
         have hzp:wo.heap.size<=wp.heap.size:=by
          exact Nat.le_of_lt (HB2.out.top.lt _ rfl).2
         have HVB:=Lib.hid (fun t (ht:t<i) b (hb:(VB t).ownBlock=some b)=>((HB2.out.row t ht).lt b hb).2)
         go_wp2
         go_loopw [13,66] (fun v u wr=>∃(j:Nat),j<=i/\u=.int .i64 j/\wr.ownsRow wp.heap.size 3 1 v j (il (List.range j))/\Own2 wr w.heap.size 70 3 (.slice (some ⟨wo.heap.size,0,none⟩) i i) i VB (fun t=>(frl F T t k).length) (fun t=>il (frl F T t k))/\OS wr w.heap.size (.slice (some ⟨w1.heap.size,0,none⟩) i i) i V L S/\wp.heap.size<=wr.heap.size/\Below w.heap.size w wr) (fun _ u _=>i - (intOf u).toNat)
         case atStart=>exact ⟨0,by omega,rfl,World.ownsRow_nil _ _ _ _,HB2.out,HO.out,Nat.le_refl _,hB⟩
         case round=>
          obtain ⟨j,hj,rfl,hW,hB2,hO,hQ,hB⟩:=hrel
          have hz:=hB.size
          have HW3:=Lib.hid hW
          have HB3:=Lib.hid hB2
          have HO3:=Lib.hid hO
          clear hW hB2 hO HB2 HO
          by_cases hlt:j<i
          · have hdj:decide ((j:Int)<i)=true:=by simp;omega
            go_wp2_with (first
             | (at_builtin
                refine Qsc _ rfl (.tmp 69) (.tmp 71) _ rfl wp.heap.size 3 i2 _ 1 8 Tryz.underlying70 hi2 hx0 hx1 hx2 rfl o9 u13 j (il (List.range j)) rfl (HW3.out.alloc _)
                 (wr.heap.size+1) (some ⟨_,0,none⟩) 1 1 [.int .i64 (j:Int)] rfl (Qpr rfl o9) (Qcr _) (by simp only[maxLen];omega) o9 (by first|omega|(simp;done)|(simp;omega)) ?_
                intro v2 w2 hown2 hg2 hat2
                rw[Qar,<-List.range_succ] at hown2
                have HW4:=Lib.hid hown2
                have HB4:=Lib.hid ((HB3.out.alloc _).kept hg2 (Q3g HB3.out.top HW3.out (by decide)) (fun t ht=>Qmj (HVB.out t ht) (fun b hb=>(HW3.out.lt b hb).1)))
                have HO4:=Lib.hid (Own2.other (Own2.alloc HO3.out _) (HW3.out.alloc _) hg2 (by decide) (by decide))
                have hB4:Below w.heap.size w w2:=(hB.alloc hz _).grown hg2 (by first|omega|(simp;done)|(simp;omega)) (fun g hg=>Nat.le_trans hz0 (Nat.le_trans hzp (HW3.out.lt g hg).1))
                have hQ4:wp.heap.size<=w2.heap.size:=by have:=hg2.size;simp at this;omega
                clear hown2 hg2 hat2 hi2 hx0 hx1 hx2)
             | fail)
            go_roundw
            case rel=>exact ⟨j+1,by omega,by go_num,HW4.out,HB4.out,HO4.out,hQ4,hB4⟩
            case measure=>simp[intOf];omega
          · have:j=i:=by omega
            subst this
            have hdj:decide ((j:Int)<j)=false:=by simp
            clear hlt hi2 hx0 hx1 hx2
            go_wp2
            go_step3
            go_step
            go_step
            refine PASS.out _ _ _ ⟨w1.heap.size,wo.heap.size,wp.heap.size,V,VB,_,0,List.range j,S,⟨rfl,rfl,rfl,rfl,rfl,rfl,rfl,rfl,rfl,rfl,rfl,rfl⟩,HO3.out,HB3.out,by simpa using HW3.out,fun x hx=>by simpa using hx,Nat.zero_le _,Found.start,Waits.start HF.out 0,rfl,by simp,HVB.out,Nat.le_trans hz0 hzp,hQ,hB⟩
end Go.Proofs.YtemnfncbgalljaaGreat
