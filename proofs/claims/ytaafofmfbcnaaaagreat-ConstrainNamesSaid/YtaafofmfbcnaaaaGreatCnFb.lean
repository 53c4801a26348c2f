/- Layer 19: sets that are literals, and sets of the outside, compared. No condition. -/
import Derived.Test.YtaafofmfbcnaaaaGreatCnFa
import Derived.Test.YtaafofmfbcnaaaaGreatS6
import Derived.Test.YtaafofmfbcnaaaaGreatS1
import Derived.Test.YtaafofmfbcnaaaaGreatSxEd
import Derived.Test.YtaafofmfbcnaaaaGreatW1
namespace Go.Proofs.YtaafofmfbcnaaaaGreat
set_option maxRecDepth 100000
open Go.RowKit
set_option linter.unusedVariables false
set_option linter.unusedSimpArgs false
theorem fam_at {c:Nat→Nat→Row} {K n N:Nat} {A:Nat→Option Addr×Nat} {f:Nat→Nat→Bool} {j:Nat} (hj:j<n):chiG c K (rrG A (nnN n N) f) K j=⟨(A j).1,N,(A j).2,1,fun k=>[.bool (f j k)]⟩:=by
 rw[chiG_ge (Nat.le_refl _),Nat.sub_self]
 unfold rrG
 rw[if_pos rfl,nnN_lt hj]
theorem bits_xs {c:Nat→Nat→Row} {w:World} (hx:XOk ⟨[],c,[]⟩ ⟨w,[]⟩) {q i n cap:Nat} {a:Option Addr} {f:Nat→Bool} (h:c q i=⟨a,n,cap,1,fun k=>[.bool (f k)]⟩):Bits w a n f:=fun hn=>by
 have hx':=fun j (hj:j<n)=>hx q i j (by simp only[h];exact hj)
 simp only[h] at hx'
 obtain ⟨b2,p2,e2,l2,_⟩:=hx' 0 hn
 refine ⟨b2,p2,e2,l2,fun j hj=>?_⟩
 obtain ⟨b3,p3,e3,_,_,vs,f4,f5⟩:=hx' j hj
 rw[e2] at e3;cases e3
 match vs,f4 with
 | [u],⟨f4,_⟩=>
   have f4:u=.bool (f j):=f4
   subst f4
   simpa using f5 0 _ rfl
theorem bits_row {c:Nat→Nat→Row} {w:World} {n:Nat} {f:Nat→Bool} {v:Value} (hR:RowIs c w ⟨n,1,fun j=>[.lit (f j)]⟩ v):∃a cap,v=.slice a n cap∧Bits w a n f:=by
 obtain ⟨a,cap,rfl⟩:=hR.form
 refine ⟨a,cap,rfl,fun hn=>?_⟩
 obtain ⟨b,p,hb,hlt,-⟩:=hR.rowG (j:=0) hn
 refine ⟨b,p,hb,hlt,fun j hj=>?_⟩
 obtain ⟨b',p',hb',_,vs,h1,h2⟩:=hR.rowG (j:=j) hj
 rw[hb] at hb';cases hb'
 match vs,h1 with
 | [u],⟨h1,_⟩=>
   have h1:u=.bool (f j):=h1
   subst h1
   simpa using h2 0 _ rfl
theorem bits_blk {c:Nat→Nat→Row} {w:World} {S:Nat→Value} {B:Nat→Nat} {st:St} (hM:MemIs c w S B st) {k:Nat} (L:List Bool) (hk:nth st.h k=some (some (L.map .lit))):Bits w (some ⟨B k,0,none⟩) L.length (fun j=>L.getD j false):=by
 have hu:∀l:List Bool,toCsB S B c (l.map .lit)=some (l.map .bool):=fun l=>by
  induction l with
  | nil=>rfl
  | cons b l ih=>simp only[List.map_cons,toCsB,ih];rfl
 obtain ⟨hlt,t,hw⟩:=hM.blk k _ _ hk (hu L)
 refine fun hn=>⟨B k,0,rfl,hlt,fun j hj=>?_⟩
 rw[cell_of_row w (B k) (0+j) _ t (0,0) hw]
 simp[List.getElem?_map,List.getElem?_eq_getElem hj,List.getD]
theorem same18V {w:World} {a a':Option Addr} {n cap cap':Nat} {f g:Nat→Bool} (hn:n≤maxLen) (h:Bits w a n f) (h':Bits w a' n g) (e:∀j,j<n→f j=g j):Calls Tryz.prog 35 #[.slice a n cap,.slice a' n cap'] w (Ret w (.bool true)):=by
 have:=same18_any a a' n n cap cap' f g w hn hn h h'
 rw[sameB_ok rfl e] at this
 exact this
theorem same18X {c:Nat→Nat→Row} {w:World} (hx:XOk ⟨[],c,[]⟩ ⟨w,[]⟩) {v:Value} {n:Nat} (hR:RowIs c w ⟨n,1,fun _=>[.lit false]⟩ v) (q i:Nat) {a:Option Addr} {cap:Nat} {f:Nat→Bool} (h:c q i=⟨a,n,cap,1,fun k=>[.bool (f k)]⟩) (hn:n≤maxLen) (e:∀j,j<n→f j=false):
 Calls Tryz.prog 35 #[.slice a n cap,v] w (Ret w (.bool true)):=by
 obtain ⟨a',cap',rfl,hB⟩:=bits_row (f:=fun _=>false) hR
 exact same18V hn (bits_xs hx h) hB e
theorem sets_blk {c:Nat→Nat→Row} {w:World} {S:Nat→Value} {B:Nat→Nat} {st:St} (hM:MemIs c w S B st) {k:Nat} {cs:List SC} {us:List Value} (hk:nth st.h k=some (some cs)) (hu:toCsB S B c cs=some us) {N:Nat} {T:List (List Bool)} (hN:N≤maxLen) (h:∀i u,us[i]? =some u→∃R C,u=.slice R N C∧Bits w R N (tabT T i)):Sets w (some ⟨B k,0,none⟩) us.length (fun _=>N) (tabT T):=fun hn=>by
 obtain ⟨hlt,t,hw⟩:=hM.blk k _ _ hk hu
 refine ⟨B k,0,rfl,hlt,fun i hi=>?_⟩
 obtain ⟨R,C,h1,h2⟩:=h i _ (List.getElem?_eq_getElem hi)
 refine ⟨R,C,?_,hN,h2⟩
 rw[cell_of_row w (B k) (0+i) _ t (0,0) hw]
 simp only[Nat.zero_add,List.getElem?_toArray,List.getElem?_eq_getElem hi,h1]
theorem sameAllL {c:Nat→Nat→Row} {w:World} (hx:XOk ⟨[],c,[]⟩ ⟨w,[]⟩) {n N:Nat} {A:Nat→Option Addr×Nat} {T:List (List Bool)} {v:Value} {a':Option Addr} {cap':Nat} (hR:RowIs c w ⟨n,1,fun j=>[.val (.slice (A j).1 N (A j).2)]⟩ v) (hA:∀j,j<n→∃q i,c q i=⟨(A j).1,N,(A j).2,1,fun k=>[.bool (tabT T j k)]⟩) {T':List (List Bool)} (hY:Sets w a' n (fun _=>N) (tabT T')) (e:∀i,i<n→∀j,j<N→tabT T i j=tabT T' i j) (hn:n≤maxLen) (hN:N≤maxLen):
 Calls Tryz.prog 36 #[v,.slice a' n cap'] w (Ret w (.bool true)):=by
 obtain ⟨a,cap,rfl,hX⟩:=sets_row hx hR hA hN
 have:=sameAll_any a a' n n cap cap' _ _ _ _ w hn hn hX hY
 rw[sameAllB_ok rfl (fun _ _=>rfl) e] at this
 exact this
theorem same18L {c:Nat→Nat→Row} {w:World} {S:Nat→Value} {B:Nat→Nat} {st:St} (hM:MemIs c w S B st) (hx:XOk ⟨[],c,[]⟩ ⟨w,[]⟩) (p q k k':Nat) {A:Nat→Option Addr×Nat} (h4:nth st.r p=some (some ⟨3,1,fun j=>[.val (.slice (A j).1 3 (A j).2)]⟩)) (h5:nth st.r q=some (some ⟨3,1,fun _=>[.lit false]⟩)) (hk:nth st.h k=some (some [.lit false,.lit true,.lit false])) (hk':nth st.h k'=some (some [.rs q,.sl k 0 3 3,.rs q]))
 (hA:∀j,j<3→∃q i,c q i=⟨(A j).1,3,(A j).2,1,fun k=>[.bool (tabT [[],[false,true]] j k)]⟩):
 Calls Tryz.prog 36 #[S p,.slice (some ⟨B k',0,none⟩) 3 3] w (Ret w (.bool true)):=by
 have hY:Sets w (some ⟨B k',0,none⟩) 3 (fun _=>3) (tabT [[],[false,true,false]]):=
  sets_blk hM (us:=[S q,.slice (some ⟨B k,0,none⟩) 3 3,S q]) hk' rfl (by unfold maxLen;omega) fun i u hu=>by
   have row:∀i,tabT [[],[false,true,false]] i=(fun _=>false)→∃R C,S q=.slice R 3 C∧Bits w R 3 (tabT [[],[false,true,false]] i):=fun i e=>by
    obtain ⟨a,cap,h1,h2⟩:=bits_row (f:=fun _=>false) (hM.row q _ h5)
    exact ⟨a,cap,h1,by rw[e];exact h2⟩
   match i,hu with
   | 0,hu=>cases hu;exact row 0 rfl
   | 1,hu=>cases hu;exact ⟨_,_,rfl,bits_blk hM [false,true,false] hk⟩
   | 2,hu=>cases hu;exact row 2 rfl
 exact sameAllL hx (hM.row p _ h4) hA hY (fun i hi j hj=>by
  match i,hi with
  | 0,_=>rfl
  | 1,_=>match j,hj with
    | 0,_=>rfl
    | 1,_=>rfl
    | 2,_=>rfl
  | 2,_=>rfl) (by unfold maxLen;omega) (by unfold maxLen;omega)
def KCon.vs (k:KCon):List Value:=[.int .i64 k.fr,.int .i64 k.to,.int .i64 k.at_,.int .u8 k.why]
theorem con_len:∀L:List KCon,(L.flatMap KCon.vs).length=L.length * 4
 | []=>rfl
 | k::L=>by simp only[List.flatMap_cons,List.length_append,con_len L,List.length_cons,KCon.vs,List.length_nil];omega
theorem con_drop:∀(L:List KCon) (j:Nat),j<L.length→((L.flatMap KCon.vs).drop (j * 4)).take 4=(L.getD j .zero).vs
 | [],_,h=>absurd h (Nat.not_lt_zero _)
 | k::L,0,_=>rfl
 | k::L,j+1,h=>by
   rw[show (j+1) * 4=j * 4+1+1+1+1 by omega]
   simp only[List.flatMap_cons,KCon.vs,List.cons_append,List.nil_append,List.drop_succ_cons]
   exact con_drop L j (by simpa using h)
theorem con_cs {S:Nat→Value} {B:Nat→Nat} {c:Nat→Nat→Row}:∀L:List KCon,toCsB S B c (L.flatMap KCon.sc)=some (L.flatMap KCon.vs)
 | []=>rfl
 | k::L=>by
   have:=con_cs (S:=S) (B:=B) (c:=c) L
   simp only[List.flatMap_cons,KCon.sc,KCon.vs,List.cons_append,List.nil_append,toCsB,this]
   rfl
theorem con_blk {c:Nat→Nat→Row} {w:World} {S:Nat→Value} {B:Nat→Nat} {st:St} (hM:MemIs c w S B st) {k:Nat} (L:List KCon) (hk:nth st.h k=some (some (L.flatMap KCon.sc))) (hn:L.length≤maxLen):RowIs c w (conR L) (.slice (some ⟨B k,0,none⟩) L.length L.length):=by
 obtain ⟨hlt,t,hw⟩:=hM.blk k _ _ hk (con_cs L)
 refine ⟨L.flatMap KCon.vs,⟨con_len L,fun u hu=>?_,.inr ⟨B k,0,L.length,_,t,rfl,hw,Nat.le_refl _,hn,?_,?_⟩⟩,fun j hj=>?_,fun b hb=>?_⟩
 · obtain ⟨x,_,hx⟩:=List.mem_flatMap.1 hu
   simp only[KCon.vs,List.mem_cons,List.not_mem_nil,or_false] at hx
   rcases hx with rfl|rfl|rfl|rfl<;>rfl
 · show 0+L.length * 4≤_
   simp[con_len L]
 · show ((L.flatMap KCon.vs).toArray.toList.drop 0).take (L.length * 4)=_
   rw[List.drop_zero,←con_len L];exact List.take_length
 · show isL _ ((L.getD j .zero).sc) _
   have e:((L.flatMap KCon.vs).drop (j * (conR L).es)).take (conR L).es=(L.getD j .zero).vs:=con_drop L j hj
   rw[e]
   exact ⟨rfl,rfl,rfl,rfl,trivial⟩
 · simp only[Value.ownBlock,Option.some.injEq] at hb
   subst hb;exact hlt
theorem same19L {c:Nat→Nat→Row} {w:World} {S:Nat→Value} {B:Nat→Nat} {st:St} (hM:MemIs c w S B st) (q k:Nat) (L:List KCon) (hq:nth st.r q=some (some (conR L))) (hk:nth st.h k=some (some (L.flatMap KCon.sc))) (hn:L.length≤1000):
 Calls Tryz.prog 34 #[S q,.slice (some ⟨B k,0,none⟩) L.length L.length] w (Ret w (.bool true)):=
 same19C L (by omega) c w _ _ (hM.row q _ hq) (con_blk hM L hk (by unfold maxLen;omega))
theorem local19C (n:Int) (w:World):
 Calls Tryz.prog 29 #[.int .i64 n] w (Ret w (.agg #[.int .i64 n,.bool false,.int .u8 0])):=by
 refine go_start (args:=[.pt (.one (.int .i64 n))]) (c:=NoRows) Tryz.func29 rfl (noRows_ok _) rfl rfl ?_
 obtain ⟨nd,hnd,nt,hnt,ar,har,cm,hcm,mx,hmx,mn,hmn,ar01,ar12,zpl,hzpl,zjn,hzjn,zup,hzup,zmi,hzmi,zdp,hzdp,hT⟩:=t0_all
 repeat' (first
  | refine go1 ?_|refine gobt ?_|refine gobn ?_|refine go3 (fun hlt=>?_) (fun hge=>?_)|refine go2 (fun h=>?_) (fun h=>?_)|exact go0|refine god ?_|refine gof ?_|refine gob ?_|(with_reducible refine fork_cons ?_ ?_)
  | fail)
 all_goals rfl
theorem borrow19C (n k l f:Int) (d:Bool) (w:World):
 Calls Tryz.prog 27 #[.int .i64 n,.int .u8 k,.agg #[.int .i64 l,.bool d,.int .u8 f]] w (Ret w (GStmt.val ⟨1,⟨n,false,0⟩,⟨4,0,k,.zero,.zero,⟨l,d,f⟩⟩,.zero,0⟩)):=by
 refine go_start (args:=[.pt (.one (.int .i64 n)),.pt (.one (.int .u8 k)),.pt (.agg [.int .i64 l,.bool d,.int .u8 f])]) (c:=NoRows) Tryz.func27 rfl (noRows_ok _) rfl rfl ?_
 obtain ⟨nd,hnd,nt,hnt,ar,har,cm,hcm,mx,hmx,mn,hmn,ar01,ar12,zpl,hzpl,zjn,hzjn,zup,hzup,zmi,hzmi,zdp,hzdp,hT⟩:=t0_all
 repeat' (first
  | refine go1 ?_|refine gobt ?_|refine gobn ?_|refine go3 (fun hlt=>?_) (fun hge=>?_)|refine go2 (fun h=>?_) (fun h=>?_)|exact go0|refine god ?_|refine gof ?_|refine gob ?_|(with_reducible refine fork_cons ?_ ?_)
  | ((with_reducible apply go_call (f:=29) (hf:=Tryz.call29));(·(cbv;try rfl));(·intro wc hbc hxc;exact local19C _ wc))
  | ((with_reducible apply go_callq (f:=29) (hf:=Tryz.call29));(·(cbv;try rfl));(·intro wc hbc hxc;exact local19C _ wc))
  | fail)
 all_goals rfl
theorem take19C (n k l f:Int) (d:Bool) (w:World):
 Calls Tryz.prog 28 #[.int .i64 n,.int .u8 k,.agg #[.int .i64 l,.bool d,.int .u8 f]] w (Ret w (GStmt.val ⟨1,⟨n,false,0⟩,⟨1,0,0,⟨k,0,⟨l,d,f⟩⟩,.zero,.zero⟩,.zero,0⟩)):=by
 refine go_start (args:=[.pt (.one (.int .i64 n)),.pt (.one (.int .u8 k)),.pt (.agg [.int .i64 l,.bool d,.int .u8 f])]) (c:=NoRows) Tryz.func28 rfl (noRows_ok _) rfl rfl ?_
 obtain ⟨nd,hnd,nt,hnt,ar,har,cm,hcm,mx,hmx,mn,hmn,ar01,ar12,zpl,hzpl,zjn,hzjn,zup,hzup,zmi,hzmi,zdp,hzdp,hT⟩:=t0_all
 repeat' (first
  | refine go1 ?_|refine gobt ?_|refine gobn ?_|refine go3 (fun hlt=>?_) (fun hge=>?_)|refine go2 (fun h=>?_) (fun h=>?_)|exact go0|refine god ?_|refine gof ?_|refine gob ?_|(with_reducible refine fork_cons ?_ ?_)
  | ((with_reducible apply go_call (f:=29) (hf:=Tryz.call29));(·(cbv;try rfl));(·intro wc hbc hxc;exact local19C _ wc))
  | ((with_reducible apply go_callq (f:=29) (hf:=Tryz.call29));(·(cbv;try rfl));(·intro wc hbc hxc;exact local19C _ wc))
  | fail)
 all_goals rfl
end Go.Proofs.YtaafofmfbcnaaaaGreat
