/- Lemmas. No condition. -/
import Derived.Test.YtemnfncbgalljabM1
import Derived.Deep.MidRow
import Derived.Laws.StructEq
namespace Go.Proofs.Ytemnfncbgalljab
open Go.RowKit
set_option linter.all false
inductive SC where
 | int (k:IntKind) (x:Int)
 | bool (b:Bool)
 | lit (b:Bool)
 | ptr (k o:Nat)
 | pi (k o:Nat)
 | sl (k o n c:Nat)
 | xs (q i:Nat)
 | xp (q i j o:Nat)
 | rs (q:Nat)
 | rp (q es j o:Nat)
 | fn (f:Nat) (cap:List (Nat×Nat))
 | val (v:Value)
 | ob (v:Value)
 | any
inductive SA where
 | one (c:SC)
 | agg (l:List SC)
inductive SV where
 | pt (a:SA)
 | tup (l:List SA)
structure Row where
 a:Option Addr
 n:Nat
 c:Nat
 size:Nat
 el:Nat->List SC
abbrev R9z:=Nat->Nat->Row
structure ORow where
 n:Nat
 es:Nat
 el:Nat->List SC
structure Env where
 rho:List Nat
 chi:Nat->Nat->Row
 sg:List Value
structure St where
 t:List SV
 h:List (Option (List SC))
 fr:List (List SV)
 r:List (Option ORow)
def Qfd (e:Env):List (Nat×Nat)->List Value->Prop
 | [],[]=>True
 | (k,o)::l,v::vs=>(∃b,e.rho[k]? =some b/\v=.pointer (some ⟨b,o,none⟩))/\Qfd e l vs
 | _,_=>False
def SC.is (e:Env):SC->Value->Prop
 | .int k x,v=>v=.int k x
 | .bool b,v=>v=.bool b
 | .lit b,v=>v=.bool b
 | .ptr k o,v=>∃b,e.rho[k]? =some b/\v=.pointer (some ⟨b,o,none⟩)
 | .pi k o,v=>∃b,e.rho[k]? =some b/\v=.pointer (some ⟨b,o,none⟩)
 | .sl k o n c,v=>∃b,e.rho[k]? =some b/\v=.slice (some ⟨b,o,none⟩) n c
 | .xs q i,v=>v=.slice (e.chi q i).a (e.chi q i).n (e.chi q i).c
 | .xp q i j o,v=>j<(e.chi q i).n/\∃b p,(e.chi q i).a=some ⟨b,p,none⟩/\v=.pointer (some ⟨b,p+(j * (e.chi q i).size+o),none⟩)
 | .rs q,v=>e.sg[q]? =some v/\v.oneCell'=true
 | .rp q es j o,v=>∃b p n c,e.sg[q]? =some (.slice (some ⟨b,p,none⟩) n c)/\j<n/\v=.pointer (some ⟨b,p+(j * es+o),none⟩)
 | .fn f cap,v=>∃vs,v=.func (.func f) #[] vs/\Qfd e cap vs.toList
 | .val u,v=>v=u
 | .ob u,v=>v=u
 | .any,_=>True
def isL (e:Env):List SC->List Value->Prop
 | [],[]=>True
 | c::l,v::vs=>c.is e v/\isL e l vs
 | _,_=>False
def SA.is (e:Env):SA->Value->Prop
 | .one c,v=>c.is e v
 | .agg l,v=>∃vs,v=.agg vs/\isL e l vs.toList
def isA (e:Env):List SA->List Value->Prop
 | [],[]=>True
 | c::l,v::vs=>c.is e v/\isA e l vs
 | _,_=>False
def SV.is (e:Env):SV->Value->Prop
 | .pt a,v=>a.is e v
 | .tup l,v=>∃vs,v=.tuple vs/\isA e l vs.toList
def isV (e:Env):List SV->List Value->Prop
 | [],[]=>True
 | c::l,v::vs=>c.is e v/\isV e l vs
 | _,_=>False
def SC.solid:SC->Bool
 | .any=>false
 | .ob _=>false
 | .val v=>v.oneCell'
 | _=>true
inductive Ty where
 | one (z:SC)
 | struct (size:Nat) (z:List SC) (fs:List (Nat×Nat×Bool)) (cmp:Bool)
 | arr (n es:Nat) (ea:Bool) (z:List SC)
 | slice (es:Nat) (ea:Bool) (z:List SC)
def Ty.size:Ty->Nat
 | .one _=>1
 | .struct s _ _ _=>s
 | .arr n es _ _=>n * es
 | .slice .. =>1
def Ty.agg:Ty->Bool
 | .struct .. | .arr .. =>true
 | _=>false
def Q4b:SC:=.val (.slice none 0 0)
def Ty.zero:Ty->List SC
 | .one z=>[z]
 | .struct _ z _ _=>z
 | .arr _ _ _ z=>z
 | .slice .. =>[Q4b]
structure Tb where
 ty:Nat->Option Ty
 nd:Bool->Bool->Bool
 nt:Bool->Bool
 ar:BinOp->IntKind->Int->Int->Int
 cm:BinOp->Int->Int->Bool
 mx:Int->Int->Int
 mn:Int->Int->Int
 pl:Nat->Nat->Nat
 jn:Nat->(Nat->List SC)->(Nat->List SC)->Nat->List SC
 up:(Nat->List SC)->Nat->Nat->List SC->Nat->List SC
 mi:Nat->Nat->Nat
 dp:Nat->(Nat->List SC)->Nat->List SC
def rAr:BinOp->IntKind->Int->Int->Int
 | .add,k,x,y=>k.wrap (x+y)
 | .sub,k,x,y=>k.wrap (x - y)
 | .and,k,x,y=>k.wrap (BitVec.ofInt k.bits x&&&BitVec.ofInt k.bits y).toNat
 | .or,k,x,y=>k.wrap (BitVec.ofInt k.bits x|||BitVec.ofInt k.bits y).toNat
 | .xor,k,x,y=>k.wrap (BitVec.ofInt k.bits x ^^^ BitVec.ofInt k.bits y).toNat
 | .andNot,k,x,y=>k.wrap (BitVec.ofInt k.bits x&&& ~~~BitVec.ofInt k.bits y).toNat
 | .shl,k,x,y=>k.wrap (x * 2 ^ (min y.toNat k.bits))
 | .shr,k,x,y=>x.fdiv (2 ^ (min y.toNat k.bits))
 | .quo,k,x,_=>k.wrap x
 | _,k,x,y=>k.wrap (x * y)
def rCm:BinOp->Int->Int->Bool
 | .lss,x,y=>decide (x<y)
 | .leq,x,y=>decide (x<=y)
 | .gtr,x,y=>decide (y<x)
 | _,x,y=>decide (y<=x)
def rMx (x y:Int):Int:=if y > x then y else x
def rMn (x y:Int):Int:=if y<x then y else x
def Qka {α:Type}:List α->Nat->List α->List α
 | l,_,[]=>l
 | [],_,_::_=>[]
 | _::l,0,b::bs=>b::Qka l 0 bs
 | a::l,o+1,b::bs=>a::Qka l o (b::bs)
def rJn (n:Nat) (f g:Nat->List SC) (i:Nat):List SC:=if i<n then f i else g (i - n)
def rUp (f:Nat->List SC) (j o:Nat) (l:List SC) (i:Nat):List SC:=if i=j then Qka (f i) o l else f i
def rDp (n:Nat) (f:Nat->List SC) (i:Nat):List SC:=f (i+n)
def ofC:Value->SC
 | .int k n=>.int k n
 | .bool b=>.lit b
 | v=>.val v
def Qpaa:List Value->List SC
 | []=>[]
 | v::l=>ofC v::Qpaa l
def ofV:Value->SV
 | .agg cs=>.pt (.agg (Qpaa cs.toList))
 | .tuple _=>.pt (.one .any)
 | v=>.pt (.one (ofC v))
def nth {α:Type}:List α->Nat->Option α
 | [],_=>none
 | a::_,0=>some a
 | _::l,n+1=>nth l n
def Q0b {α:Type}:List α->Nat->α->List α
 | [],_,_=>[]
 | _::l,0,b=>b::l
 | a::l,n+1,b=>a::Q0b l n b
def evO (st:St):Operand->SV
 | .tmp t=>match nth st.t t with|some x=>x|none=>.pt (.one .any)
 | .const v=>ofV v
 | .func f=>.pt (.one (.fn f []))
 | .global _=>.pt (.one .any)
def Qx9 (st:St):List Operand->List SV
 | []=>[]
 | x::l=>evO st x::Qx9 st l
inductive OpR where
 | v (x:SV)
 | nb (cells:List SC) (x:SV)
 | st (k o:Nat) (cells:List SC)
 | call (f:Nat) (args:List SV)
 | need (i:Int) (n:Nat) (x:SV)
 | ask (k o:Nat) (cs:List SC)
 | askS (k o:Nat) (cs:List SC) (x:SC)
 | row (q:Nat) (R:ORow) (x:SV) (lost:Option Nat) (ob:Prop)
 | rst (q:Nat) (R:ORow)
 | no
def Qte {α:Type}:List α->Nat->Nat->List α
 | _,0,0=>[]
 | [],_,_=>[]
 | a::l,0,n+1=>a::Qte l 0 n
 | _::l,o+1,n=>Qte l o n
def Qei:List SC->Bool
 | []=>true
 | c::l=>c.solid&&Qei l
def SC.free:SC->Bool
 | .int .. | .bool _| .lit _| .xs .. | .xp .. | .val _| .ob _=>true
 | _=>false
def Qsk:List SC->Bool
 | []=>true
 | c::l=>c.free&&Qsk l
def SV.cells:SV->Option (List SC)
 | .pt (.one c)=>if c.solid then some [c] else none
 | .pt (.agg l)=>if Qei l then some l else none
 | .tup _=>none
def Qef (agg:Bool) (cs:List SC):Option SV:=
 if agg then some (.pt (.agg cs)) else match cs with
  | [c]=>some (.pt (.one c))
  | _=>none
def eqC:SC->SC->Option Bool
 | .int k x,.int k' y=>if k=k' then some (x==y) else none
 | .bool x,.bool y=>some (x==y)
 | .lit x,.bool y=>some (x==y)
 | .bool x,.lit y=>some (x==y)
 | .lit x,.lit y=>some (x==y)
 | _,_=>none
def eqL (nd:Bool->Bool->Bool):List SC->List SC->Option Bool
 | [],[]=>some true
 | [x],[y]=>eqC x y
 | x::xs,y::ys=>match eqC x y,eqL nd xs ys with
   | some a,some b=>some (nd a b)
   | _,_=>none
 | _,_=>none
def Qux:SC->SC->Bool
 | .int k _,.int k' _=>decide (k=k')
 | .lit _,.bool _=>true
 | .lit _,.lit _=>true
 | _,_=>false
def Qfc:List SC->List SC->Bool
 | [],[]=>true
 | x::xs,y::ys=>Qux x y&&Qfc xs ys
 | _,_=>false
def boC:SC->Option Bool
 | .bool b=>some b
 | .lit b=>some b
 | _=>none
def Qp9 (T:Tb) (op:BinOp) (t:Nat):SV->SV->OpR
 | .pt (.one (.int k x)),.pt (.one (.int k' y))=>
   match op with
   | .shl=>.need y (y.toNat+1) (.pt (.one (.int k (T.ar .shl k x y))))
   | .shr=>.need y (y.toNat+1) (.pt (.one (.int k (T.ar .shr k x y))))
   | _=>if k=k' then match op with
     | .and=>.v (.pt (.one (.int k (T.ar .and k x y))))
     | .or=>.v (.pt (.one (.int k (T.ar .or k x y))))
     | .xor=>.v (.pt (.one (.int k (T.ar .xor k x y))))
     | .andNot=>.v (.pt (.one (.int k (T.ar .andNot k x y))))
     | .add=>.v (.pt (.one (.int k (T.ar .add k x y))))
     | .sub=>.v (.pt (.one (.int k (T.ar .sub k x y))))
     | .mul=>.v (.pt (.one (.int k (T.ar .mul k x y))))
     | .eql=>.v (.pt (.one (.bool (x==y))))
     | .neq=>.v (.pt (.one (.bool (T.nt (x==y)))))
     | .lss=>.v (.pt (.one (.bool (T.cm .lss x y))))
     | .leq=>.v (.pt (.one (.bool (T.cm .leq x y))))
     | .gtr=>.v (.pt (.one (.bool (T.cm .gtr x y))))
     | .geq=>.v (.pt (.one (.bool (T.cm .geq x y))))
     | _=>.no
   else .no
 | .pt (.agg l),.pt (.agg l')=>match T.ty t with
   | some (.struct _ z _ true)=>if Qfc z l&&Qfc z l' then match op,eqL T.nd l l' with
     | .eql,some b=>.v (.pt (.one (.bool b)))
     | .neq,some b=>.v (.pt (.one (.bool (T.nt b))))
     | _,_=>.no else .no
   | _=>.no
 | .pt (.one a),.pt (.one b)=>match T.ty t with
   | some (.one (.lit _))=>match boC a,boC b with
     | some x,some y=>(match op with
       | .eql=>.v (.pt (.one (.bool (x==y))))
       | .neq=>.v (.pt (.one (.bool (T.nt (x==y)))))
       | _=>.no)
     | _,_=>.no
   | _=>.no
 | _,_=>.no
def Qh1:SC->SV->SV->OpR
 | .lit true,x,_=>.v x
 | .lit false,_,y=>.v y
 | _,_,_=>.no
def Q1q (fs:List (Nat×Nat×Bool)):List SC->List (Nat×Operand)->St->Option (List SC)
 | z,[],_=>some z
 | z,(i,x)::l,st=>match nth fs i,(evO st x).cells with
   | some (o,n,_),some cs=>if cs.length=n then (if o+n<=z.length then Q1q fs (Qka z o cs) l st else none) else none
   | _,_=>none
def Qqp (T:Tb) (e:R9z) (st:St) (t:Nat):SV->OpR
 | .pt (.one (.ptr k o))=>match T.ty t,nth st.h k with
   | some y,some (some cs)=>if o+y.size<=cs.length then match Qef y.agg (Qte cs o y.size) with|some x=>.v x|none=>.no else .no
   | _,_=>.no
 | .pt (.one (.pi k o))=>match T.ty t,nth st.h k with
   | some (.one _),some (some cs)=>.ask k o cs
   | _,_=>.no
 | .pt (.one (.xp q i j o))=>match T.ty t with
   | some y=>if o+y.size<=((e q i).el j).length then match Qef y.agg (Qte ((e q i).el j) o y.size) with|some x=>.v x|none=>.no else .no
   | none=>.no
 | .pt (.one (.rp q es j o))=>match T.ty t,nth st.r q with
   | some y,some (some R)=>if R.es=es then (if o+y.size<=(R.el j).length then match Qef y.agg (Qte (R.el j) o y.size) with|some x=>.v x|none=>.no else .no) else .no
   | _,_=>.no
 | _=>.no
def Qum (T:Tb) (st:St) (t:Nat):SV->SV->OpR
 | .pt (.one (.ptr k o)),x=>match T.ty t,nth st.h k,x.cells with
   | some y,some (some cs),some l=>if l.length=y.size then (if o+y.size<=cs.length then .st k o l else .no) else .no
   | _,_,_=>.no
 | .pt (.one (.pi k o)),.pt (.one c)=>match T.ty t,nth st.h k with
   | some (.one _),some (some cs)=>if c.solid then .askS k o cs c else .no
   | _,_=>.no
 | .pt (.one (.rp q es j o)),x=>match T.ty t,nth st.r q,x.cells with
   | some y,some (some R),some l=>if R.es=es then (if l.length=y.size then (if o+y.size<=es then (if Qsk l then .rst q ⟨R.n,R.es,T.up R.el j o l⟩ else .no) else .no) else .no) else .no
   | _,_,_=>.no
 | _,_=>.no
def Qjs (T:Tb) (s f:Nat):SV->OpR
 | .pt (.one (.ptr k o))=>match T.ty s with
   | some (.struct _ _ fs _)=>match nth fs f with|some (d,_,_)=>.v (.pt (.one (.ptr k (o+d))))|none=>.no
   | _=>.no
 | .pt (.one (.xp q i j o))=>match T.ty s with
   | some (.struct _ _ fs _)=>match nth fs f with|some (d,_,_)=>.v (.pt (.one (.xp q i j (o+d))))|none=>.no
   | _=>.no
 | .pt (.one (.rp q es j o))=>match T.ty s with
   | some (.struct _ _ fs _)=>match nth fs f with|some (d,_,_)=>.v (.pt (.one (.rp q es j (o+d))))|none=>.no
   | _=>.no
 | _=>.no
def Qg1 (T:Tb) (s f:Nat):SV->OpR
 | .pt (.agg l)=>match T.ty s with
   | some (.struct _ _ fs _)=>match nth fs f with
     | some (d,n,g)=>if d+n<=l.length then match Qef g (Qte l d n) with|some x=>.v x|none=>.no else .no
     | none=>.no
   | _=>.no
 | _=>.no
def Qh0 (T:Tb) (t:Nat):SV->SV->OpR
 | .pt (.agg l),.pt (.one (.int _ (.ofNat x)))=>match T.ty t with
   | some (.arr n 1 false _)=>if l.length=n then .ask 0 x l else .no
   | some (.arr n es ea _)=>if x<n then (if x * es+es<=l.length then match Qef ea (Qte l (x * es) es) with|some r=>.v r|none=>.no else .no) else .no
   | _=>.no
 | _,_=>.no
def Qe7:List SV->Option (List (Nat×Nat))
 | []=>some []
 | .pt (.one (.ptr k o))::l=>match Qe7 l with|some r=>some ((k,o)::r)|none=>none
 | _=>none
def Qbaa:List (Nat×Nat)->List SV
 | []=>[]
 | (k,o)::l=>.pt (.one (.ptr k o))::Qbaa l
def Qgp (T:Tb) (e:R9z) (st:St) (t:Nat):SV->SV->OpR
 | .pt (.one (.xs q i)),.pt (.one (.int _ x))=>match T.ty t with
   | some (.slice es _ _)=>if (e q i).size=es then .need x (e q i).n (.pt (.one (.xp q i x.toNat 0))) else .no
   | _=>.no
 | .pt (.one (.sl k o n _)),.pt (.one (.int _ x))=>match T.ty t with
   | some (.slice es _ _)=>.need x n (.pt (.one (.ptr k (o+x.toNat * es))))
   | _=>.no
 | .pt (.one (.ptr k o)),.pt (.one (.int _ x))=>match T.ty t with
   | some (.arr n es _ _)=>.need x n (.pt (.one (.pi k (o+x.toNat * es))))
   | _=>.no
 | .pt (.one (.rs q)),.pt (.one (.int _ x))=>match T.ty t,nth st.r q with
   | some (.slice es _ _),some (some R)=>if R.es=es then .need x R.n (.pt (.one (.rp q es x.toNat 0))) else .no
   | _,_=>.no
 | _,_=>.no
def Qx6 (T:Tb) (e:R9z) (r:List (Option ORow)) (t:Nat):SV->OpR
 | .pt (.one (.xs q i))=>match T.ty t with
   | some (.slice ..)=>.v (.pt (.one (.int .i64 (e q i).n)))
   | _=>.no
 | .pt (.one (.sl _ _ n _))=>match T.ty t with
   | some (.slice ..)=>.v (.pt (.one (.int .i64 n)))
   | _=>.no
 | .pt (.one (.val (.slice _ n _)))=>match T.ty t with
   | some (.slice ..)=>.v (.pt (.one (.int .i64 n)))
   | _=>.no
 | .pt (.one (.rs q))=>match T.ty t,nth r q with
   | some (.slice ..),some (some R)=>.v (.pt (.one (.int .i64 R.n)))
   | _,_=>.no
 | _=>.no
def Qpo {α:Type}:Nat->List α->List α
 | 0,_=>[]
 | n+1,l=>l++Qpo n l
def Qco (es:Nat) (ea:Bool):Nat->Nat->List (Nat×Nat×Bool)
 | 0,_=>[]
 | n+1,o=>(o,es,ea)::Qco es ea n (o+es)
def Qy6 (st:St) (x:Operand):Option Nat:=match evO st x with
 | .pt (.one (.int _ (.ofNat n)))=>some n
 | _=>none
def Q4m (st:St) (len cap:Nat) (lo hi mx:Option Operand):Option (Nat×Nat×Nat):=
 match (match mx with|some v=>Qy6 st v|none=>some cap),(match hi with|some v=>Qy6 st v|none=>match mx with|none=>some len|some _=>none),(match lo with|some v=>Qy6 st v|none=>some 0) with
 | some m,some h,some l=>if m<=cap then if h<=m then if l<=h then some (l,h,m) else none else none else none
 | _,_,_=>none
def Qgq (T:Tb) (st:St) (t:Nat):SV->Option Operand->Option Operand->Option Operand->OpR
 | .pt (.one (.ptr k o)),lo,hi,mx=>match T.ty t with
   | some (.arr n es _ _)=>match Q4m st n n lo hi mx with
     | some (l,h,m)=>.v (.pt (.one (.sl k (if m=l then o else o+l * es) (h - l) (m - l))))
     | none=>.no
   | _=>.no
 | .pt (.one (.sl k o n c)),lo,hi,mx=>match T.ty t with
   | some (.slice es _ _)=>match Q4m st n c lo hi mx with
     | some (l,h,m)=>.v (.pt (.one (.sl k (if m=l then o else o+l * es) (h - l) (m - l))))
     | none=>.no
   | _=>.no
 | .pt (.one (.rs q)),some x,none,none=>match T.ty t,nth st.r q,Qy6 st x with
   | some (.slice es _ _),some (some R),some l=>if R.es=es then .row q ⟨T.mi R.n l,es,T.dp l R.el⟩ (.pt (.one (.rs q))) none (l<=R.n) else .no
   | _,_,_=>.no
 | _,_,_,_=>.no
def Qzaa (e:R9z) (st:St) (es:Nat):SV->Option (Nat×(Nat->List SC)×Prop)
 | .pt (.one (.val (.slice none 0 0)))=>some (0,fun _=>[],True)
 | .pt (.one (.sl k o n _))=>match nth st.h k with
   | some (some cs)=>if o+n * es<=cs.length then (if Qsk cs&&Qei cs then some (n,fun j=>Qte cs (o+j * es) es,True) else none) else none
   | _=>none
 | .pt (.one (.xs q i))=>if (e q i).size=es then some ((e q i).n,(e q i).el,∀j,j<(e q i).n->Qei ((e q i).el j)=true/\((e q i).el j).length=es) else none
 | .pt (.one (.rs q))=>match nth st.r q with
   | some (some R)=>if R.es=es then some (R.n,R.el,True) else none
   | _=>none
 | _=>none
def Qyn {α:Type}:List α->Nat
 | []=>0
 | _::l=>Qyn l+1
def Qo9 (T:Tb) (e:R9z) (st:St) (t:Nat) (x y:SV):OpR:=match T.ty t with
 | some (.slice es _ _)=>match Qzaa e st es y with
   | some (m,g,ob)=>match x with
     | .pt (.one (.val (.slice none 0 0)))=>.row (Qyn st.r) ⟨m,es,g⟩ (.pt (.one (.rs (Qyn st.r)))) none (ob/\m<=1073741824)
     | .pt (.one (.sl k 0 n c))=>match nth st.h k with
       | some (some cs)=>if n=c then (if n * es<=cs.length then (if Qsk cs&&Qei cs then
          .row (Qyn st.r) ⟨T.pl n m,es,T.jn n (fun j=>Qte cs (j * es) es) g⟩ (.pt (.one (.rs (Qyn st.r)))) (some k) (ob/\T.pl n m<=1073741824) else .no) else .no) else .no
       | _=>.no
     | .pt (.one (.rs q))=>match nth st.r q with
       | some (some R)=>if R.es=es then .row q ⟨T.pl R.n m,es,T.jn R.n R.el g⟩ (.pt (.one (.rs q))) none (ob/\T.pl R.n m<=1073741824) else .no
       | _=>.no
     | _=>.no
   | none=>.no
 | _=>.no
def Q50 (T:Tb) (st:St) (t:Nat):SV->SV->OpR
 | .pt (.one (.int _ x)),.pt (.one (.int _ y))=>match T.ty t with
   | some (.slice es _ z)=>.row (Qyn st.r) ⟨x.toNat,es,fun _=>z⟩ (.pt (.one (.rs (Qyn st.r)))) none (x=y/\0<=x/\x<=1073741824)
   | _=>.no
 | _,_=>.no
def opE (T:Tb) (e:R9z) (st:St):Op->OpR
 | .move x=>.v (evO st x)
 | .assign x=>.v (evO st x)
 | .pick c a b=>match evO st c with| .pt (.one d)=>Qh1 d (evO st a) (evO st b)|_=>.no
 | .alloc t=>match T.ty t with|some y=>.nb y.zero (.pt (.one (.ptr st.h.length 0)))|none=>.no
 | .box _ x=>match (evO st x).cells with|some cs=>.nb cs (.pt (.one (.ptr st.h.length 0)))|none=>.no
 | .build t ps=>match T.ty t with
   | some (.struct _ z fs _)=>match Q1q fs z ps.toList st with|some cs=>.v (.pt (.agg cs))|none=>.no
   | some (.arr n es ea z)=>match Q1q (Qco es ea n 0) z ps.toList st with|some cs=>.v (.pt (.agg cs))|none=>.no
   | _=>.no
 | .slice t x lo hi mx=>Qgq T st t (evO st x) lo hi mx
 | .buildSlice t n ps=>match T.ty t with
   | some (.slice es ea z)=>if n * es<=16777216 then match Q1q (Qco es ea n 0) (Qpo n z) ps.toList st with|some cs=>.nb cs (.pt (.one (.sl st.h.length 0 n n)))|none=>.no else .no
   | _=>.no
 | .load t a=>Qqp T e st t (evO st a)
 | .store t a x=>Qum T st t (evO st a) (evO st x)
 | .binOp op t x y _=>Qp9 T op t (evO st x) (evO st y)
 | .unOp .not _ x=>match evO st x with
   | .pt (.one (.bool b))=>.v (.pt (.one (.bool (T.nt b))))
   | .pt (.one (.lit b))=>.v (.pt (.one (.lit (!b))))
   | _=>.no
 | .fieldAddr s x f=>Qjs T s f (evO st x)
 | .field s x f=>Qg1 T s f (evO st x)
 | .indexAddr t x i=>Qgp T e st t (evO st x) (evO st i)
 | .makeSlice t x y=>Q50 T st t (evO st x) (evO st y)
 | .index t x i=>Qh0 T t (evO st x) (evO st i)
 | .convert src dst x=>match T.ty src,T.ty dst,evO st x with
   | some _,some (.one (.int k _)),.pt (.one (.int _ n))=>.v (.pt (.one (.int k (T.ar .quo k n 0))))
   | _,_,_=>.no
 | .extract x i=>match evO st x with
   | .tup l=>match nth l i with|some a=>.v (.pt a)|none=>.no
   | _=>.no
 | .makeFunc (.func f) first cap=>match first.toList,Qe7 (Qx9 st cap.toList) with
   | [],some l=>.v (.pt (.one (.fn f l)))
   | _,_=>.no
 | .call c=>match c.callee with
   | .value f=>match evO st f with
     | .pt (.one (.fn g cap))=>.call g (Qx9 st c.args.toList++Qbaa cap)
     | _=>.no
   | .builtin .len=>match c.argTypes.toList,c.args.toList with
     | [t],[x]=>Qx6 T e st.r t (evO st x)
     | _,_=>.no
   | .builtin .append=>match c.argTypes.toList,c.args.toList with
     | [t,t'],[x,y]=>if t=t' then Qo9 T e st t (evO st x) (evO st y) else .no
     | _,_=>.no
   | .builtin .max=>match c.args.toList with
     | [x,y]=>match evO st x,evO st y with
       | .pt (.one (.int k a)),.pt (.one (.int _ b))=>.v (.pt (.one (.int k (T.mx a b))))
       | _,_=>.no
     | _=>.no
   | .builtin .min=>match c.args.toList with
     | [x,y]=>match evO st x,evO st y with
       | .pt (.one (.int k a)),.pt (.one (.int _ b))=>.v (.pt (.one (.int k (T.mn a b))))
       | _,_=>.no
     | _=>.no
   | _=>.no
 | _=>.no
inductive Item where
 | code (c:Code)
 | ops (all:Array Oper) (rest:List Oper)
 | blk (id:Nat)
 | stop (I:List Act->Act->World->Prop)
 | qops (all:Array Oper) (rest:List Oper)
 | back (res:List ResultVar) (dst:Option Nat)
 | rnds (body:Code) (m:Nat)
 | aops (all:Array Oper) (listed:List Bool) (f:Nat)
 | aop (all:Array Oper) (i:Nat) (listed:List Bool) (f:Nat)
inductive Out where
 | fin (st:St)
 | ret (st:St)
 | br (b:Bool) (kt:List Item) (st1:St) (kf:List Item) (st2:St)
 | call (f:Nat) (args:List SV) (dst:Option Nat) (k:List Item) (st:St)
 | loop (c:Code) (k:List Item) (st:St)
 | draw (id:Nat) (ops:Array Oper) (k:List Item) (st:St)
 | stop (I:List Act->Act->World->Prop) (k:List Item) (st:St)
 | callq (f:Nat) (args:List SV) (dst:Option Nat) (k:List Item) (st:St)
 | fork (l:List (List Item)) (st:St)
 | ask (o:Nat) (cs:List SC) (dst:Option Nat) (k:List Item) (st:St)
 | askS (b o:Nat) (cs:List SC) (x:SC) (dst:Option Nat) (k:List Item) (st:St)
 | need (i:Int) (n:Nat) (k:List Item) (st:St)
 | row (ob:Prop) (k:List Item) (st:St)
 | man (o:Oper) (all:Array Oper) (rest:List Oper) (k:List Item) (st:St)
 | stuck
def Qzq (id:Nat):List Item->Option (List Item)
 | []=>none
 | .blk i::k=>if i=id then some k else Qzq id k
 | .back _ _::_=>none
 | _::k=>Qzq id k
def Q15:List Item->Option (List ResultVar×Option Nat×List Item)
 | []=>none
 | .back r d::k=>some (r,d,k)
 | _::k=>Q15 k
def Qe3 (T:Tb) (e:R9z) (st:St):ResultVar->Option SV
 | .tmp t=>some (evO st (.tmp t))
 | .cell a t=>match Qqp T e st t (evO st (.tmp a)) with
   | .v x=>some x
   | _=>none
def Qul (T:Tb) (e:R9z) (st:St):List ResultVar->Option SV
 | [r]=>Qe3 T e st r
 | []=>some (.tup [])
 | [r,u]=>match Qe3 T e st r,Qe3 T e st u with
   | some (.pt x),some (.pt y)=>some (.tup [x,y])
   | _,_=>none
 | [r,u,o]=>match Qe3 T e st r,Qe3 T e st u,Qe3 T e st o with
   | some (.pt x),some (.pt y),some (.pt z)=>some (.tup [x,y,z])
   | _,_,_=>none
 | _=>none
def undefS:SV:=.pt (.one .any)
def skipS:SV:=.tup []
def St.put (st:St) (d:Option Nat) (x:SV):St:=match d with|some d=>{ st with t:=Q0b st.t d x }|none=>st
def Qc6 (st:St):Operand->Bool->St
 | .tmp t,b=>{ st with t:=Q0b st.t t (.pt (.one (.lit b))) }
 | _,_=>st
def SC.det:SC->Bool
 | .any=>false
 | _=>true
def Qv9:List SC->Bool
 | []=>true
 | c::l=>c.det&&Qv9 l
def SA.det:SA->Bool
 | .one c=>c.det
 | .agg l=>Qv9 l
def Qu9:List SA->Bool
 | []=>true
 | c::l=>c.det&&Qu9 l
def SV.det:SV->Bool
 | .pt a=>a.det
 | .tup l=>Qu9 l
def Qw9:List SV->Bool
 | []=>true
 | c::l=>c.det&&Qw9 l
def Quy:Op->Bool
 | .move _| .assign _| .convert .. | .pick .. | .build .. | .binOp .. | .unOp .. | .fieldAddr .. | .field .. | .extract .. | .makeFunc .. | .slice .. =>true
 | .call c=>match c.callee with
   | .builtin .len| .builtin .max| .builtin .min=>true
   | _=>false
 | _=>false
inductive Frst where
 | take (i:Nat) (d:Option Nat) (x:SV)
 | skip (i:Nat) (d:Option Nat)
 | br (d:Nat) (b:Bool)
 | need (i:Nat) (d:Option Nat) (j:Int) (m:Nat) (x:SV)
 | no
def Qkl (T:Tb) (e:R9z) (st:St) (op:Op):OpR:=
 if Quy op then (match opE T e st op with| .v x=>.v x|_=>.no) else match op with
  | .load t a=>match evO st a with
    | .pt (.one (.xp q i j o))=>Qqp T e st t (.pt (.one (.xp q i j o)))
    | _=>.no
  | .indexAddr t x i=>Qgp T e st t (evO st x) (evO st i)
  | _=>.no
def Q7d (T:Tb) (e:R9z) (st:St) (all:Array Oper) (listed:List Bool):List Nat->Frst
 | []=>.no
 | i::l=>match all[i]? with
   | none=>Q7d T e st all listed l
   | some o=>match o.guard with
     | some (j,want)=>match (all[j]?).bind (·.dst) with
       | some d=>match nth st.t d with
         | some (.pt (.one (.lit b)))=>if b=want then (if Region.free .any all listed.toArray i then match Qkl T e st o.op with
            | .v x=>if x.det then .take i o.dst x else Q7d T e st all listed l
            | .need j m x=>if x.det then .need i o.dst j m x else Q7d T e st all listed l
            | _=>Q7d T e st all listed l else Q7d T e st all listed l)
           else if Region.free .any all listed.toArray i then .skip i o.dst else Q7d T e st all listed l
         | some (.pt (.one (.bool b)))=>.br d b
         | some (.tup _)=>if Region.free .any all listed.toArray i then .skip i o.dst else Q7d T e st all listed l
         | _=>.no
       | none=>.no
     | none=>if Region.free .any all listed.toArray i then match Qkl T e st o.op with
        | .v x=>if x.det then .take i o.dst x else Q7d T e st all listed l
        | .need j m x=>if x.det then .need i o.dst j m x else Q7d T e st all listed l
        | _=>Q7d T e st all listed l else Q7d T e st all listed l
def SC.kill (q:Nat):SC->SC
 | .rs k=>if k=q then .any else .rs k
 | .rp k es j o=>if k=q then .any else .rp k es j o
 | c=>c
def Qkx (q:Nat):List SC->List SC
 | []=>[]
 | c::l=>c.kill q::Qkx q l
def SA.kill (q:Nat):SA->SA
 | .one c=>.one (c.kill q)
 | .agg l=>.agg (Qkx q l)
def Qa5 (q:Nat):List SA->List SA
 | []=>[]
 | c::l=>c.kill q::Qa5 q l
def SV.kill (q:Nat):SV->SV
 | .pt a=>.pt (a.kill q)
 | .tup l=>.tup (Qa5 q l)
def Qvu (q:Nat):List SV->List SV
 | []=>[]
 | c::l=>c.kill q::Qvu q l
def Qjx (q:Nat):List (List SV)->List (List SV)
 | []=>[]
 | c::l=>Qvu q c::Qjx q l
def Q2h (q:Nat):List (Option (List SC))->List (Option (List SC))
 | []=>[]
 | none::l=>none::Q2h q l
 | some c::l=>some (Qkx q c)::Q2h q l
def Q7m (h:List (Option (List SC))):Option Nat->List (Option (List SC))
 | some k=>Q0b h k none
 | none=>h
def St.row (st:St) (q:Nat) (R:ORow) (lost:Option Nat):St:=
 if q<Qyn st.r then ⟨Qvu q st.t,Q2h q (Q7m st.h lost),Qjx q st.fr,Q0b st.r q (some R)⟩ else ⟨st.t,Q7m st.h lost,st.fr,st.r++[some R]⟩
def St.pop (st:St) (d:Option Nat) (x:SV):Option St:=match st.fr with
 | []=>none
 | t::fr=>some (({ t:=t,h:=st.h,fr:=fr,r:=st.r }:St).put d x)
def ev (T:Tb) (e:R9z):Nat->List Item->St->Out
 | 0,_,_=>.stuck
 | _+1,[],st=>.fin st
 | n+1,.blk _::k,st=>ev T e n k st
 | _+1,.stop I::k,st=>.stop I k st
 | n+1,.ops _ []::k,st=>ev T e n k st
 | n+1,.qops _ []::k,st=>ev T e n k st
 | n+1,.aops all listed f::k,st=>match Region.ready .any all listed.toArray with
   | []=>ev T e n k st
   | r::rs=>match f with
     | 0=>.stuck
     | f+1=>match (if Region.noSelect all then Q7d T e st all listed (r::rs) else .no) with
       | .take i d x=>ev T e n (.aops all (Q0b listed i true) f::k) (st.put d x)
       | .skip i d=>ev T e n (.aops all (Q0b listed i true) f::k) (st.put d skipS)
       | .br d b=>.br b (.aops all listed (f+1)::k) { st with t:=Q0b st.t d (.pt (.one (.lit true))) } (.aops all listed (f+1)::k) { st with t:=Q0b st.t d (.pt (.one (.lit false))) }
       | .need i d j m x=>.need j m (.aops all (Q0b listed i true) f::k) (st.put d x)
       | .no=>.fork ((r::rs).map fun i=>.aop all i listed f::k) st
 | n+1,.aop all i listed f::k,st=>match all[i]? with
   | none=>.stuck
   | some o=>match (match o.guard with
      | none=>some true
      | some (j,want)=>match (all[j]?).bind (·.dst) with
        | some d=>match nth st.t d with
          | some (.pt (.one (.lit b)))=>some (b==want)
          | some (.tup _)=>some false
          | _=>none
        | none=>none) with
     | none=>.stuck
     | some false=>ev T e n (.aops all (Q0b listed i true) f::k) (st.put o.dst skipS)
     | some true=>match opE T e st o.op with
       | .v x=>ev T e n (.aops all (Q0b listed i true) f::k) (st.put o.dst x)
       | .nb cs x=>ev T e n (.aops all (Q0b listed i true) f::k) (({ st with h:=st.h++[some cs] }:St).put o.dst x)
       | .st b p cs=>match nth st.h b with
         | some (some old)=>ev T e n (.aops all (Q0b listed i true) f::k) (({ st with h:=Q0b st.h b (some (Qka old p cs)) }:St).put o.dst undefS)
         | _=>.stuck
       | .call f' args=>.call f' args o.dst (.aops all (Q0b listed i true) f::k) st
       | .need j m x=>.need j m (.aops all (Q0b listed i true) f::k) (st.put o.dst x)
       | .ask _ p cs=>.ask p cs o.dst (.aops all (Q0b listed i true) f::k) st
       | .askS b p cs x=>.askS b p cs x o.dst (.aops all (Q0b listed i true) f::k) st
       | .row q R x lost ob=>.row ob (.aops all (Q0b listed i true) f::k) ((st.row q R lost).put o.dst x)
       | .rst q R=>ev T e n (.aops all (Q0b listed i true) f::k) (({ st with r:=Q0b st.r q (some R) }:St).put o.dst undefS)
       | .no=>.stuck
 | _+1,.rnds _ 0::_,_=>.stuck
 | n+1,.rnds b (m+1)::k,st=>ev T e n (.code b::.rnds b m::k) st
 | n+1,.back r d::k,st=>match Qul T e st r with
   | some x=>match st.pop d x with|some st'=>ev T e n k st'|none=>.stuck
   | none=>.stuck
 | n+1,.qops all (o::rest)::k,st=>
   match o.guard with
   | none=>match opE T e st o.op with
     | .v x=>if x.det then ev T e n (.qops all rest::k) (st.put o.dst x) else .stuck
     | .call f args=>if Qw9 args then .callq f args o.dst (.qops all rest::k) st else .stuck
     | .need i m x=>if x.det then .need i m (.qops all rest::k) (st.put o.dst x) else .stuck
     | .ask _ p cs=>.ask p cs o.dst (.qops all rest::k) st
     | _=>.stuck
   | some (j,want)=>match (all[j]?).bind (·.dst) with
     | some d=>match nth st.t d with
       | some (.pt (.one (.lit b)))=>if b=want then ev T e n (.qops all ({ o with guard:=none }::rest)::k) st else ev T e n (.qops all rest::k) (st.put o.dst skipS)
       | some (.tup _)=>ev T e n (.qops all rest::k) (st.put o.dst skipS)
       | some (.pt (.one (.bool b)))=>.br b (.qops all (o::rest)::k) { st with t:=Q0b st.t d (.pt (.one (.lit true))) } (.qops all (o::rest)::k) { st with t:=Q0b st.t d (.pt (.one (.lit false))) }
       | _=>.stuck
     | none=>.stuck
 | n+1,.ops all (o::rest)::k,st=>
   match o.guard with
   | none=>match opE T e st o.op with
     | .v x=>ev T e n (.ops all rest::k) (st.put o.dst x)
     | .nb cs x=>ev T e n (.ops all rest::k) (({ st with h:=st.h++[some cs] }:St).put o.dst x)
     | .st b p cs=>match nth st.h b with
       | some (some old)=>ev T e n (.ops all rest::k) (({ st with h:=Q0b st.h b (some (Qka old p cs)) }:St).put o.dst undefS)
       | _=>.stuck
     | .call f args=>.call f args o.dst (.ops all rest::k) st
     | .need i m x=>.need i m (.ops all rest::k) (st.put o.dst x)
     | .ask _ p cs=>.ask p cs o.dst (.ops all rest::k) st
     | .askS b p cs x=>.askS b p cs x o.dst (.ops all rest::k) st
     | .row q R x lost ob=>.row ob (.ops all rest::k) ((st.row q R lost).put o.dst x)
     | .rst q R=>ev T e n (.ops all rest::k) (({ st with r:=Q0b st.r q (some R) }:St).put o.dst undefS)
     | .no=>.man o all rest k st
   | some (j,want)=>match (all[j]?).bind (·.dst) with
     | some d=>match nth st.t d with
       | some (.pt (.one (.lit b)))=>if b=want then ev T e n (.ops all ({ o with guard:=none }::rest)::k) st else ev T e n (.ops all rest::k) (st.put o.dst skipS)
       | some (.tup _)=>ev T e n (.ops all rest::k) (st.put o.dst skipS)
       | some (.pt (.one (.bool b)))=>.br b (.ops all (o::rest)::k) { st with t:=Q0b st.t d (.pt (.one (.lit true))) } (.ops all (o::rest)::k) { st with t:=Q0b st.t d (.pt (.one (.lit false))) }
       | _=>.stuck
     | none=>.stuck
 | n+1,.code c::k,st=>
   match c with
   | .skip=>ev T e n k st
   | .label _=>ev T e n k st
   | .seq a b=>ev T e n (.code a::.code b::k) st
   | .block id c=>ev T e n (.code c::.blk id::k) st
   | .exit id=>match Qzq id k with|some k'=>ev T e n k' st|none=>.stuck
   | .ret=>match Q15 k with|some (r,d,k')=>ev T e n (.back r d::k') st|none=>.ret st
   | .region id ops false=>ev T e n (.ops ops ops.toList::k) st
   | .region id ops true=>.draw id ops k st
   | .cond c x y=>match evO st c with
     | .pt (.one (.lit b))=>if b then ev T e n (.code x::k) st else ev T e n (.code y::k) st
     | .pt (.one (.bool b))=>.br b (.code x::k) (Qc6 st c true) (.code y::k) (Qc6 st c false)
     | _=>.stuck
   | .loop c=>.loop c k st
   | _=>.stuck
theorem Qva {α:Type}:∀(l:List α) (n:Nat),nth l n=l[n]?
 | [],n=>by simp[nth]
 | a::l,0=>by simp[nth]
 | a::l,n+1=>by simp[nth,Qva l n]
theorem Q8b {α:Type}:∀(l:List α) (n:Nat) (b:α),Q0b l n b=l.set n b
 | [],n,b=>by simp[Q0b]
 | a::l,0,b=>by simp[Q0b]
 | a::l,n+1,b=>by simp[Q0b,Q8b l n b]
theorem Qqk {α:Type}:∀(l:List α) (o n:Nat),Qte l o n=(l.drop o).take n
 | [],0,0=>by simp[Qte]
 | [],0,n+1=>by simp[Qte]
 | [],o+1,n=>by simp[Qte]
 | a::l,0,0=>by simp[Qte]
 | a::l,0,n+1=>by simp[Qte,Qqk l 0 n]
 | a::l,o+1,n=>by simp[Qte,Qqk l o n]
theorem Qjb {α:Type}:∀(l:List α) (o:Nat) (bs:List α),(Qka l o bs).length=l.length
 | l,o,[]=>by cases l<;>simp[Qka]
 | [],o,b::bs=>by simp[Qka]
 | a::l,0,b::bs=>by simp[Qka,Qjb l 0 bs]
 | a::l,o+1,b::bs=>by simp[Qka,Qjb l o (b::bs)]
theorem Q9a {α:Type}:∀(l:List α) (o:Nat) (bs:List α) (j:Nat),o+bs.length<=l.length->
 (Qka l o bs)[j]? =if j<o then l[j]? else if j<o+bs.length then bs[j - o]? else l[j]?
 | l,o,[],j,_=>by
   have:Qka l o []=l:=by cases l<;>simp[Qka]
   rw[this]
   by_cases g1:j<o
   · simp[g1]
   · simp only[g1,if_false,List.length_nil,Nat.add_zero]
 | [],o,b::bs,j,h=>by simp at h
 | a::l,0,b::bs,0,h=>by simp[Qka]
 | a::l,0,b::bs,j+1,h=>by
   have ih:=Q9a l 0 bs j (by simp at h⊢;omega)
   simp[Qka,ih]
 | a::l,o+1,b::bs,0,h=>by simp[Qka]
 | a::l,o+1,b::bs,j+1,h=>by
   have ih:=Q9a l o (b::bs) j (by simp at h⊢;omega)
   simp only[Qka,List.getElem?_cons_succ,ih,List.length_cons,Nat.add_lt_add_iff_right]
   split
   · rfl
   · have e:j+1 - (o+1)=j - o:=by omega
     rw[e]
     have e2:(j+1<o+1+(bs.length+1))=(j<o+(bs.length+1)):=by apply propext;omega
     simp only[e2]
theorem Qza {e:Env}:∀{l:List SC} {vs:List Value},isL e l vs->l.length=vs.length
 | [],[],_=>rfl
 | c::l,v::vs,h=>by simp[Qza h.2]
 | [],_::_,h=>h.elim
 | _::_,[],h=>h.elim
theorem Qnn {e:Env}:∀{l:List SC} {vs:List Value},isL e l vs->∀{j:Nat} {c:SC},l[j]? =some c->∃v,vs[j]? =some v/\c.is e v
 | [],[],_,j,c,hc=>by simp at hc
 | c::l,v::vs,h,0,c',hc=>by simp at hc;subst hc;exact ⟨v,by simp,h.1⟩
 | c::l,v::vs,h,j+1,c',hc=>by simp at hc;simpa using Qnn h.2 hc
 | [],_::_,h,_,_,_=>h.elim
 | _::_,[],h,_,_,_=>h.elim
theorem Qxs {e:Env}:∀{l:List SC} {vs:List Value},l.length=vs.length->(∀(j:Nat) (c:SC) (v:Value),l[j]? =some c->vs[j]? =some v->c.is e v)->isL e l vs
 | [],[],_,_=>trivial
 | c::l,v::vs,hl,h=>⟨h 0 c v (by simp) (by simp),Qxs (by simpa using hl) (fun j c' v' h1 h2=>h (j+1) c' v' (by simpa using h1) (by simpa using h2))⟩
 | [],_::_,hl,_=>by simp at hl
 | _::_,[],hl,_=>by simp at hl
theorem Qhp {e:Env} {l:List SC} {vs:List Value} (h:isL e l vs) {j:Nat} {c:SC} {v:Value} (h1:l[j]? =some c) (h2:vs[j]? =some v):c.is e v:=by
 obtain ⟨u,hu,hc⟩:=Qnn h h1
 rw[h2] at hu
 cases hu
 exact hc
theorem Qdm {e:Env}:∀{l l':List SC} {vs vs':List Value},isL e l vs->isL e l' vs'->isL e (l++l') (vs++vs')
 | [],_,[],_,_,h'=>h'
 | c::l,_,v::vs,_,h,h'=>⟨h.1,Qdm h.2 h'⟩
 | [],_,_::_,_,h,_=>h.elim
 | _::_,_,[],_,h,_=>h.elim
theorem Qve {e:Env} {l:List SC} {vs:List Value} (h:isL e l vs) (o n:Nat):isL e (Qte l o n) ((vs.drop o).take n):=by
 have hl:=Qza h
 rw[Qqk]
 refine Qxs (by simp[hl]) (fun j c v h1 h2=>?_)
 simp only[List.getElem?_take,List.getElem?_drop] at h1 h2
 split at h1
 · rw[if_pos y9] at h2;exact Qhp h h1 h2
 · simp at h1
theorem Qxk {e:Env} {l l':List SC} {vs vs':List Value} (h:isL e l vs) (h':isL e l' vs') (o:Nat) (ho:o+l'.length<=l.length):isL e (Qka l o l') (Qka vs o vs'):=by
 have hl:=Qza h
 have hl':=Qza h'
 refine Qxs (by simp[Qjb,hl]) (fun j c v h1 h2=>?_)
 rw[Q9a _ _ _ _ ho] at h1
 rw[Q9a _ _ _ _ o9] at h2
 by_cases g1:j<o
 · rw[if_pos g1] at h1 h2;exact Qhp h h1 h2
 · rw[if_neg g1] at h1 h2
   by_cases g2:j<o+l'.length
   · rw[if_pos g2] at h1;rw[if_pos o9] at h2;exact Qhp h' h1 h2
   · rw[if_neg g2] at h1;rw[if_neg o9] at h2;exact Qhp h h1 h2
theorem Qce {e:Env}:∀{l:List SV} {vs:List Value},isV e l vs->∀{j:Nat} {c:SV},l[j]? =some c->∃v,vs[j]? =some v/\c.is e v
 | [],[],_,j,c,hc=>by simp at hc
 | c::l,v::vs,h,0,c',hc=>by simp at hc;subst hc;exact ⟨v,by simp,h.1⟩
 | c::l,v::vs,h,j+1,c',hc=>by simp at hc;simpa using Qce h.2 hc
 | [],_::_,h,_,_,_=>h.elim
 | _::_,[],h,_,_,_=>h.elim
theorem Qlg {e:Env}:∀{l:List SV} {vs:List Value},isV e l vs->l.length=vs.length
 | [],[],_=>rfl
 | c::l,v::vs,h=>by simp[Qlg h.2]
 | [],_::_,h=>h.elim
 | _::_,[],h=>h.elim
theorem Qsn {e:Env}:∀{l:List SV} {vs:List Value},isV e l vs->∀(j:Nat) {c:SV} {v:Value},c.is e v->isV e (Q0b l j c) (vs.set j v)
 | [],[],_,j,c,v,_=>by simp[Q0b,isV]
 | c::l,u::vs,h,0,c',v,hc=>by simpa [Q0b] using ⟨hc,h.2⟩
 | c::l,u::vs,h,j+1,c',v,hc=>by simpa [Q0b] using ⟨h.1,Qsn h.2 j hc⟩
 | [],_::_,h,_,_,_,_=>h.elim
 | _::_,[],h,_,_,_,_=>h.elim
theorem Qye {e:Env}:∀{l l':List SV} {vs vs':List Value},isV e l vs->isV e l' vs'->isV e (l++l') (vs++vs')
 | [],_,[],_,_,h'=>h'
 | c::l,_,v::vs,_,h,h'=>⟨h.1,Qye h.2 h'⟩
 | [],_,_::_,_,h,_=>h.elim
 | _::_,_,[],_,h,_=>h.elim
theorem Q8w {e:Env}:∀{l:List SA} {vs:List Value},isA e l vs->∀{j:Nat} {c:SA},l[j]? =some c->∃v,vs[j]? =some v/\c.is e v
 | [],[],_,j,c,hc=>by simp at hc
 | c::l,v::vs,h,0,c',hc=>by simp at hc;subst hc;exact ⟨v,by simp,h.1⟩
 | c::l,v::vs,h,j+1,c',hc=>by simp at hc;simpa using Q8w h.2 hc
 | [],_::_,h,_,_,_=>h.elim
 | _::_,[],h,_,_,_=>h.elim
def Env.more (e:Env) (b:Nat):Env:=⟨e.rho++[b],e.chi,e.sg⟩
theorem Q8h {e:Env} {b k x:Nat} (h:e.rho[k]? =some x):(e.more b).rho[k]? =some x:=by
 have hlt:k<e.rho.length:=(List.getElem?_eq_some_iff.1 h).1
 simp[Env.more,List.getElem?_append_left hlt,h]
theorem Q8l {e:Env} {b:Nat}:∀{l:List (Nat×Nat)} {vs:List Value},Qfd e l vs->Qfd (e.more b) l vs
 | [],[],_=>trivial
 | (k,o)::l,v::vs,⟨⟨x,hx,hv⟩,h⟩=>⟨⟨x,Q8h hx,hv⟩,Q8l h⟩
 | [],_::_,h=>h.elim
 | _::_,[],h=>h.elim
theorem SC.is_more {e:Env} {b:Nat} {c:SC} {v:Value} (h:c.is e v):c.is (e.more b) v:=by
 cases c<;>try exact h
 case ptr k o=>obtain ⟨x,hx,hv⟩:=h;exact ⟨x,Q8h hx,hv⟩
 case pi k o=>obtain ⟨x,hx,hv⟩:=h;exact ⟨x,Q8h hx,hv⟩
 case sl k o n c=>obtain ⟨x,hx,hv⟩:=h;exact ⟨x,Q8h hx,hv⟩
 case fn f cap=>obtain ⟨vs,hv,hc⟩:=h;exact ⟨vs,hv,Q8l hc⟩
theorem Qek {e:Env} {b:Nat}:∀{l:List SC} {vs:List Value},isL e l vs->isL (e.more b) l vs
 | [],[],_=>trivial
 | c::l,v::vs,h=>⟨SC.is_more h.1,Qek h.2⟩
 | [],_::_,h=>h.elim
 | _::_,[],h=>h.elim
theorem SA.is_more {e:Env} {b:Nat} {c:SA} {v:Value} (h:c.is e v):c.is (e.more b) v:=by
 cases c
 · exact SC.is_more h
 · obtain ⟨vs,hv,hl⟩:=h;exact ⟨vs,hv,Qek hl⟩
theorem Qus {e:Env} {b:Nat}:∀{l:List SA} {vs:List Value},isA e l vs->isA (e.more b) l vs
 | [],[],_=>trivial
 | c::l,v::vs,h=>⟨SA.is_more h.1,Qus h.2⟩
 | [],_::_,h=>h.elim
 | _::_,[],h=>h.elim
theorem SV.is_more {e:Env} {b:Nat} {c:SV} {v:Value} (h:c.is e v):c.is (e.more b) v:=by
 cases c
 · exact SA.is_more h
 · obtain ⟨vs,hv,hl⟩:=h;exact ⟨vs,hv,Qus hl⟩
theorem Qrn {e:Env} {b:Nat}:∀{l:List SV} {vs:List Value},isV e l vs->isV (e.more b) l vs
 | [],[],_=>trivial
 | c::l,v::vs,h=>⟨SV.is_more h.1,Qrn h.2⟩
 | [],_::_,h=>h.elim
 | _::_,[],h=>h.elim
def Env.addS (e:Env) (v:Value):Env:=⟨e.rho,e.chi,e.sg++[v]⟩
def Env.putS (e:Env) (q:Nat) (v:Value):Env:=⟨e.rho,e.chi,e.sg.set q v⟩
structure Env.To (e e':Env):Prop where
 rho:∀(k x:Nat),e.rho[k]? =some x->e'.rho[k]? =some x
 chi:e'.chi=e.chi
 sg:∀(q:Nat) (v:Value),e.sg[q]? =some v->e'.sg[q]? =some v
theorem Qbs {e e':Env} (t:e.To e'):∀{l:List (Nat×Nat)} {vs:List Value},Qfd e l vs->Qfd e' l vs
 | [],[],_=>trivial
 | (k,o)::l,v::vs,⟨⟨x,hx,hv⟩,h⟩=>⟨⟨x,t.rho k x hx,hv⟩,Qbs t h⟩
 | [],_::_,h=>h.elim
 | _::_,[],h=>h.elim
theorem SC.is_to {e e':Env} (t:e.To e') {c:SC} {v:Value} (h:c.is e v):c.is e' v:=by
 cases c<;>try exact h
 case ptr k o=>obtain ⟨x,hx,hv⟩:=h;exact ⟨x,t.rho _ _ hx,hv⟩
 case pi k o=>obtain ⟨x,hx,hv⟩:=h;exact ⟨x,t.rho _ _ hx,hv⟩
 case sl k o n c=>obtain ⟨x,hx,hv⟩:=h;exact ⟨x,t.rho _ _ hx,hv⟩
 case xs q i=>simp only[SC.is,t.chi] at h⊢;exact h
 case xp q i j o=>simp only[SC.is,t.chi] at h⊢;exact h
 case rs q=>exact ⟨t.sg _ _ h.1,h.2⟩
 case rp q es j o=>obtain ⟨b,p,n,c,h1,h2,h3⟩:=h;exact ⟨b,p,n,c,t.sg _ _ h1,h2,h3⟩
 case fn f cap=>obtain ⟨vs,hv,hc⟩:=h;exact ⟨vs,hv,Qbs t hc⟩
theorem Qip {e e':Env} (t:e.To e'):∀{l:List SC} {vs:List Value},isL e l vs->isL e' l vs
 | [],[],_=>trivial
 | c::l,v::vs,h=>⟨SC.is_to t h.1,Qip t h.2⟩
 | [],_::_,h=>h.elim
 | _::_,[],h=>h.elim
theorem SA.is_to {e e':Env} (t:e.To e') {c:SA} {v:Value} (h:c.is e v):c.is e' v:=by
 cases c
 · exact SC.is_to t h
 · obtain ⟨vs,hv,hl⟩:=h;exact ⟨vs,hv,Qip t hl⟩
theorem Qt2 {e e':Env} (t:e.To e'):∀{l:List SA} {vs:List Value},isA e l vs->isA e' l vs
 | [],[],_=>trivial
 | c::l,v::vs,h=>⟨SA.is_to t h.1,Qt2 t h.2⟩
 | [],_::_,h=>h.elim
 | _::_,[],h=>h.elim
theorem SV.is_to {e e':Env} (t:e.To e') {c:SV} {v:Value} (h:c.is e v):c.is e' v:=by
 cases c
 · exact SA.is_to t h
 · obtain ⟨vs,hv,hl⟩:=h;exact ⟨vs,hv,Qt2 t hl⟩
theorem Qjp {e e':Env} (t:e.To e'):∀{l:List SV} {vs:List Value},isV e l vs->isV e' l vs
 | [],[],_=>trivial
 | c::l,v::vs,h=>⟨SV.is_to t h.1,Qjp t h.2⟩
 | [],_::_,h=>h.elim
 | _::_,[],h=>h.elim
theorem Qvz (e:Env) (v:Value):e.To (e.addS v):=⟨fun _ _ h=>h,rfl,fun q u h=>by
 have hlt:q<e.sg.length:=(List.getElem?_eq_some_iff.1 h).1
 simp[Env.addS,List.getElem?_append_left hlt,h]⟩
theorem Qxo {e:Env} {q:Nat} {v:Value}:∀{l:List (Nat×Nat)} {vs:List Value},Qfd e l vs->Qfd (e.putS q v) l vs
 | [],[],_=>trivial
 | (k,o)::l,v::vs,⟨⟨x,hx,hv⟩,h⟩=>⟨⟨x,hx,hv⟩,Qxo h⟩
 | [],_::_,h=>h.elim
 | _::_,[],h=>h.elim
theorem Q8n {e:Env} {q k:Nat} {u:Value} (h:¬k=q):(e.putS q u).sg[k]? =e.sg[k]? :=by
 simp[Env.putS,List.getElem?_set_ne (fun hh=>h hh.symm)]
theorem SC.is_kill {e:Env} {q:Nat} {u:Value} {c:SC} {v:Value} (h:c.is e v):(c.kill q).is (e.putS q u) v:=by
 cases c<;>try exact h
 case rs k=>
  simp only[SC.kill]
  split
  · trivial
  · rename_i hk;exact ⟨by rw[Q8n hk];exact h.1,h.2⟩
 case rp k es j o=>
  simp only[SC.kill]
  split
  · trivial
  · rename_i hk;obtain ⟨b,p,n,c,h1,h2,h3⟩:=h;exact ⟨b,p,n,c,by rw[Q8n hk];exact h1,h2,h3⟩
 case fn f cap=>obtain ⟨vs,hv,hc⟩:=h;exact ⟨vs,hv,Qxo hc⟩
theorem Qon {e:Env} {q:Nat} {u:Value}:∀{l:List SC} {vs:List Value},isL e l vs->isL (e.putS q u) (Qkx q l) vs
 | [],[],_=>trivial
 | c::l,v::vs,h=>⟨SC.is_kill h.1,Qon h.2⟩
 | [],_::_,h=>h.elim
 | _::_,[],h=>h.elim
theorem SA.is_kill {e:Env} {q:Nat} {u:Value} {c:SA} {v:Value} (h:c.is e v):(c.kill q).is (e.putS q u) v:=by
 cases c
 · exact SC.is_kill h
 · obtain ⟨vs,hv,hl⟩:=h;exact ⟨vs,hv,Qon hl⟩
theorem Qts {e:Env} {q:Nat} {u:Value}:∀{l:List SA} {vs:List Value},isA e l vs->isA (e.putS q u) (Qa5 q l) vs
 | [],[],_=>trivial
 | c::l,v::vs,h=>⟨SA.is_kill h.1,Qts h.2⟩
 | [],_::_,h=>h.elim
 | _::_,[],h=>h.elim
theorem SV.is_kill {e:Env} {q:Nat} {u:Value} {c:SV} {v:Value} (h:c.is e v):(c.kill q).is (e.putS q u) v:=by
 cases c
 · exact SA.is_kill h
 · obtain ⟨vs,hv,hl⟩:=h;exact ⟨vs,hv,Qts hl⟩
theorem Qqn {e:Env} {q:Nat} {u:Value}:∀{l:List SV} {vs:List Value},isV e l vs->isV (e.putS q u) (Qvu q l) vs
 | [],[],_=>trivial
 | c::l,v::vs,h=>⟨SV.is_kill h.1,Qqn h.2⟩
 | [],_::_,h=>h.elim
 | _::_,[],h=>h.elim
theorem Qjl {e:Env} {c:SC} {v:Value} (h:c.is e v) (hs:c.solid=true):v.oneCell'=true:=by
 cases c<;>simp only[SC.is] at h
 case int=>subst h;rfl
 case bool=>subst h;rfl
 case lit=>subst h;rfl
 case ptr=>obtain ⟨x,_,rfl⟩:=h;rfl
 case pi=>obtain ⟨x,_,rfl⟩:=h;rfl
 case sl=>obtain ⟨x,_,rfl⟩:=h;rfl
 case xs=>subst h;rfl
 case xp=>obtain ⟨_,b,p,_,rfl⟩:=h;rfl
 case rs=>exact h.2
 case rp=>obtain ⟨b,p,n,c,_,_,rfl⟩:=h;rfl
 case fn=>obtain ⟨vs,rfl,_⟩:=h;rfl
 case val=>subst h;exact hs
 case ob=>simp[SC.solid] at hs
 case any=>simp[SC.solid] at hs
theorem Qrd {e:Env}:∀{l:List SC} {vs:List Value},isL e l vs->Qei l=true->∀v∈vs,v.oneCell'=true
 | [],[],_,_,v,hv=>by simp at hv
 | c::l,u::vs,h,hs,v,hv=>by
   simp only[Qei,Bool.and_eq_true] at hs
   rcases List.mem_cons.1 hv with rfl|hv
   · exact Qjl h.1 hs.1
   · exact Qrd h.2 hs.2 v hv
 | [],_::_,h,_,_,_=>h.elim
 | _::_,[],h,_,_,_=>h.elim
theorem Qzf {v:Value} (h:v.oneCell'=true):v.cells=#[v]:=by
 cases v<;>simp_all[Value.cells,Value.oneCell']
theorem SV.cells_is {e:Env} {x:SV} {v:Value} {cs:List SC} (h:x.is e v) (hc:x.cells=some cs):isL e cs v.cells.toList/\(∀u∈v.cells.toList,u.oneCell'=true):=by
 unfold SV.cells at hc
 split at hc
 · split at hc
   · cases hc
     rename_i c hs
     have:=Qjl h hs
     rw[Qzf this]
     refine ⟨⟨h,trivial⟩,?_⟩
     intro u hu
     simp at hu;subst hu;exact this
   · cases hc
 · split at hc
   · cases hc
     obtain ⟨vs,rfl,hl⟩:=h
     exact ⟨hl,Qrd hl y9⟩
   · cases hc
 · cases hc
theorem Q42 (e:Env) (v:Value):(ofC v).is e v:=by cases v<;>simp[ofC,SC.is]
theorem Qdy (e:Env):∀vs:List Value,isL e (Qpaa vs) vs
 | []=>trivial
 | v::vs=>⟨Q42 e v,Qdy e vs⟩
theorem Qg8 (e:Env) (v:Value):(ofV v).is e v:=by
 unfold ofV
 split
 · exact ⟨_,rfl,Qdy e _⟩
 · trivial
 · exact Q42 e v
theorem Qab {e:Env} {st:St} {a:Act} (ht:isV e st.t a.tmps.toList) (x:Operand):(evO st x).is e (a.eval x):=by
 cases x with
 | tmp t=>
   simp only[evO,Qva,Act.eval]
   cases h:st.t[t]? with
   | none=>trivial
   | some y=>
     obtain ⟨v,hv,hy⟩:=Qce ht h
     simp only[Array.getElem?_toList] at hv
     rw[Array.getD_eq_getD_getElem?,hv]
     exact hy
 | const v=>exact Qg8 e v
 | global g=>trivial
 | func f=>exact ⟨#[],rfl,trivial⟩
theorem Qxq {e:Env} {st:St} {a:Act} (ht:isV e st.t a.tmps.toList):∀l:List Operand,isV e (Qx9 st l) (l.map a.eval)
 | []=>trivial
 | x::l=>⟨Qab ht x,Qxq ht l⟩
section
def scB:SC->Value->Bool
 | .int k x,.int k' y=>k==k'&&x==y
 | .lit b,.bool c=>b==c
 | .val (.slice none 0 0),.slice none 0 0=>true
 | .val (.pointer none),.pointer none=>true
 | .val .nilFunc,.nilFunc=>true
 | _,_=>false
def Qcv:List SC->List Value->Bool
 | [],[]=>true
 | c::l,v::vs=>scB c v&&Qcv l vs
 | _,_=>false
def elB (P:Program) (t n:Nat) (g:Bool):Bool:=match P.info? t,P.underlying t with
 | some i,some d=>i.size==n&&d.isRow==g&&decide (0<n)&&(g||n==1)
 | _,_=>false
def Qwd (P:Program):List Field->List (Nat×Nat×Bool)->Bool
 | [],[]=>true
 | f::fs,(o,n,g)::l=>f.offset==o&&elB P f.type n g&&Qwd P fs l
 | _,_=>false
def tyB (P:Program) (t:Nat) (y:Ty):Bool:=match P.info? t,P.underlying t with
 | some i,some d=>i.size==y.size&&decide (0<y.size)&&d.isRow==y.agg&&(match i.zero with|some z=>Qcv y.zero z.cells.toList|none=>false)&&
   (match y with
     | .one (.int k _)=>match d with| .int k'=>k==k'|_=>false
     | .one (.lit _)=>match d with| .bool=>true|_=>false
     | .one _=>true
     | .struct _ _ l _=>match d with| .struct fs=>Qwd P fs.toList l|_=>false
     | .arr n es ea _=>match d with| .array m el=>n==m&&elB P el es ea|_=>false
     | .slice es ea z=>match d with| .slice el=>elB P el es ea&&(match P.info? el with|some j=>(match j.zero with|some u=>Qcv z u.cells.toList&&z.length==es&&decide (j.bytes<=65536)|none=>false)|none=>false)|_=>false)
 | _,_=>false
def goC (P:Program) (r:Nat->List SC->Bool):List Field->List SC->Nat->Bool
 | [],z,_=>z.isEmpty
 | f::fs,z,o=>decide (f.name≠ "_")&&f.offset==o&&(match P.info? f.type,P.underlying f.type with
   | some i,some u=>(u.isRow||i.size==1)&&decide (i.size<=z.length)&&r f.type (z.take i.size)&&goC P r fs (z.drop i.size) (o+i.size)
   | _,_=>false)
def Qm2 (P:Program):Nat->Nat->List SC->Bool
 | 0,_,_=>false
 | d+1,t,z=>match P.underlying t with
   | some .bool=>(match z with| [.lit _]=>true|_=>false)
   | some (.int k)=>(match z with| [.int k' _]=>k==k'|_=>false)
   | some (.struct fs)=>!P.stoodInHeld t&&!P.eqGuardType P.depth t&&goC P (Qm2 P d) fs.toList z 0
   | _=>false
theorem Q08 {c:SC} {v:Value} (h:scB c v=true) (e:Env):c.is e v:=by
 unfold scB at h
 split at h<;>simp_all[SC.is]
theorem Qdg (e:Env):∀{l:List SC} {vs:List Value},Qcv l vs=true->isL e l vs
 | [],[],_=>trivial
 | c::l,v::vs,h=>by
   simp only[Qcv,Bool.and_eq_true] at h
   exact ⟨Q08 h.1 e,Qdg e h.2⟩
 | [],_::_,h=>by simp[Qcv] at h
 | _::_,[],h=>by simp[Qcv] at h
variable {P:Program} {w:World}
theorem Qac {t n:Nat} {g:Bool} (h:elB P t n g=true):∃i d,P.info? t=some i/\P.underlying t=some d/\i.size=n/\d.isRow=g/\0<n/\(g=false->n=1):=by
 unfold elB at h
 split at h
 · rename_i i d h1 h2
   simp only[Bool.and_eq_true,beq_iff_eq,decide_eq_true_eq,Bool.or_eq_true] at h
   refine ⟨i,d,h1,h2,h.1.1.1,h.1.1.2,h.1.2,fun hg=>?_⟩
   rcases h.2 with h'|h'
   · rw[hg] at h';cases h'
   · exact h'
 · cases h
theorem Qai {t:Nat} {d:TypeDesc} (h:P.underlying t=some d) (w:World):(isAgg t).run P w=.ok d.isRow w:=by
 unfold isAgg
 rw[Sem.run_bind,run_underlying h w]
 cases d<;>simp_all
theorem Qnb {t:Nat} {i:TypeInfo} (h:P.info? t=some i) (w:World):(sizeOf t).run P w=.ok i.size w:=by
 simp[sizeOf,typeInfo,h]
theorem Qhh:∀{fs:List Field} {l:List (Nat×Nat×Bool)},Qwd P fs l=true->∀{j:Nat} {p:Nat×Nat×Bool},l[j]? =some p->
 ∃f,fs[j]? =some f/\f.offset=p.1/\elB P f.type p.2.1 p.2.2=true
 | [],[],_,j,p,hp=>by simp at hp
 | f::fs,(o,n,g)::l,h,0,p,hp=>by
   simp only[Qwd,Bool.and_eq_true,beq_iff_eq] at h
   simp at hp;subst hp
   exact ⟨f,by simp,h.1.1,h.1.2⟩
 | f::fs,(o,n,g)::l,h,j+1,p,hp=>by
   simp only[Qwd,Bool.and_eq_true,beq_iff_eq] at h
   simp at hp
   simpa using Qhh h.2 hp
 | [],_::_,h,_,_,_=>by simp[Qwd] at h
 | _::_,[],h,_,_,_=>by simp[Qwd] at h
structure TyF (P:Program) (t:Nat) (y:Ty):Prop where
 ex:∃i d z,P.info? t=some i/\P.underlying t=some d/\i.size=y.size/\0<y.size/\d.isRow=y.agg/\i.zero=some z/\Qcv y.zero z.cells.toList=true/\
  (match y with
    | .one (.int k _)=>d=.int k
    | .one _=>True
    | .struct _ _ l _=>∃fs,d=.struct fs/\Qwd P fs.toList l=true
    | .arr n es ea _=>∃el,d=.array n el/\elB P el es ea=true
    | .slice es ea z=>∃el j u,d=.slice el/\elB P el es ea=true/\P.info? el=some j/\j.zero=some u/\Qcv z u.cells.toList=true/\z.length=es/\j.bytes<=65536)
theorem Qt6 {P:Program} {t:Nat} {b:Bool} (h:tyB P t (.one (.lit b))=true):P.underlying t=some .bool:=by
 unfold tyB at h
 split at h
 · rename_i i d h1 h2
   simp only[Bool.and_eq_true] at h
   have g:=h.2
   cases d<;>first|exact h2|(cases g;done)
 · cases h
theorem Q8a {t:Nat} {y:Ty} (h:tyB P t y=true):TyF P t y:=by
 unfold tyB at h
 split at h
 · rename_i i d h1 h2
   simp only[Bool.and_eq_true,beq_iff_eq,decide_eq_true_eq] at h
   obtain ⟨⟨⟨⟨g1,g2⟩,g3⟩,g4⟩,g5⟩:=h
   split at g4
   · rename_i z hz
     refine ⟨i,d,z,h1,h2,g1,g2,g3,hz,g4,?_⟩
     cases y with
     | one c=>
       cases c with
       | int k n=>
         simp only at g5⊢
         split at g5
         · rw[beq_iff_eq] at g5;rw[g5]
         · cases g5
       | _=>trivial
     | struct s zz l cmp=>
       simp only at g5⊢
       split at g5
       · exact ⟨_,rfl,g5⟩
       · cases g5
     | arr n es ea zz=>
       simp only at g5⊢
       split at g5
       · simp only[Bool.and_eq_true,beq_iff_eq] at g5
         obtain ⟨rfl,g6⟩:=g5
         exact ⟨_,rfl,g6⟩
       · cases g5
     | slice es ea zz=>
       simp only at g5⊢
       split at g5
       · simp only[Bool.and_eq_true] at g5
         obtain ⟨g6,g7⟩:=g5
         split at g7
         · rename_i j hj
           split at g7
           · rename_i u hu
             simp only[Bool.and_eq_true,beq_iff_eq,decide_eq_true_eq] at g7
             exact ⟨_,j,u,rfl,g6,hj,hu,g7.1.1,g7.1.2,g7.2⟩
           · cases g7
         · cases g7
       · cases g5
   · cases g4
 · cases h
structure TOk (P:Program) (T:Tb):Prop where
 ty:∀t y,T.ty t=some y->tyB P t y=true
 cmp:∀t s z l,T.ty t=some (.struct s z l true)->Qm2 P 5 t z=true
 nd:T.nd=and
 nt:T.nt=not
 ar:T.ar=rAr
 cm:T.cm=rCm
 mx:T.mx=rMx
 mn:T.mn=rMn
 pl:T.pl=fun x y=>x+y
 jn:T.jn=rJn
 up:T.up=rUp
 mi:T.mi=fun x y=>x - y
 dp:T.dp=rDp
theorem Q01 {t:Nat} {y:Ty} (h:TyF P t y) (e:Env):∃z,(∀w,(zeroValue t).run P w=.ok z w)/\isL e y.zero z.cells.toList:=by
 obtain ⟨i,d,z,h1,_,_,_,_,hz,hs,_⟩:=h.ex
 exact ⟨z,fun w=>by simp[zeroValue,typeInfo,h1,hz],Qdg e hs⟩
structure Exs where
 at_:Nat->Option Obj
instance noExI:Inhabited Exs:=⟨⟨fun _=>none⟩⟩
structure Base where
 w:World
 mo:List Nat
 [x:Inhabited Exs]
def Base.ex (w0:Base) (b:Nat):Option Obj:=w0.x.default.at_ b
structure KB (w0:Base) (w:World):Prop where
 os:w.os=w0.w.os
 tape:w.tape=w0.w.tape
 output:w.output=w0.w.output
 size:w0.w.heap.size<=w.heap.size
 block:∀k,k<w0.w.heap.size->k ∉ w0.mo->w.heap[k]? =w0.w.heap[k]?
theorem KB.refl (w0:Base):KB w0 w0.w:=⟨rfl,rfl,rfl,Nat.le_refl _,fun _ _ _=>rfl⟩
theorem KB.later {w0:Base} {w w':World} (h:KB w0 w) (hb:Below w.heap.size w w'):KB w0 w':=
 ⟨hb.os.trans h.os,hb.tape.trans h.tape,hb.output.trans h.output,Nat.le_trans h.size hb.size,fun k hk hm=>(hb.block k (Nat.lt_of_lt_of_le hk h.size)).trans (h.block k hk hm)⟩
theorem KB.below {w w':World} {X:Inhabited Exs} (h:KB ⟨w,[]⟩ w'):Below w.heap.size w w':=⟨h.os,h.tape,h.output,h.size,fun k hk=>h.block k hk (by simp)⟩
theorem KB.cell {w0:Base} {w:World} (h:KB w0 w) {p:Addr} (hp:p.block<w0.w.heap.size) (hm:p.block ∉ w0.mo):w.cell? p=w0.w.cell? p:=World.cell?_of_block (w:=w0.w) (h.block p.block hp hm)
def XOk (e:Env) (w0:Base):Prop:=∀q i j,j<(e.chi q i).n->∃b p,(e.chi q i).a=some ⟨b,p,none⟩/\b<w0.w.heap.size/\b ∉ w0.mo/\
 ∃vs,isL ⟨[],e.chi,[]⟩ ((e.chi q i).el j) vs/\∀(t:Nat) (v:Value),vs[t]? =some v->w0.w.cell? ⟨b,p+(j * (e.chi q i).size+t),none⟩=some v
def Qzl (e:Env):List (List SV)->List Act->Prop
 | [],[]=>True
 | t::ts,a::us=>(a.defers=[]/\isV e t a.tmps.toList)/\Qzl e ts us
 | _,_=>False
def OwnR (w:World) (es:Nat) (v:Value) (n:Nat) (xs:List Value):Prop:=
 xs.length=n * es/\(∀u∈xs,u.oneCell'=true)/\
 ((v=.slice none 0 0/\n=0)\/∃g o cap cur ty,v=.slice (some ⟨g,o,none⟩) n cap/\w.heap[g]? =some (.cells cur ty (0,0))/\n<=cap/\cap<=maxLen/\o+cap * es<=cur.size/\(cur.toList.drop o).take (n * es)=xs)
def Q3c (c:R9z) (R:ORow) (xs:List Value):Prop:=∀j,j<R.n->isL ⟨[],c,[]⟩ (R.el j) ((xs.drop (j * R.es)).take R.es)
def Qdd (e:Env) (st:St) (q b:Nat):Prop:=∃R v,st.r[q]? =some (some R)/\e.sg[q]? =some v/\v.ownBlock=some b
def Qhd (e:Env) (st:St) (k b:Nat):Prop:=∃cs,st.h[k]? =some (some cs)/\e.rho[k]? =some b
structure Rows (e:Env) (w0:Base) (st:St) (w:World):Prop where
 len:e.sg.length=st.r.length
 row:∀(q:Nat) (R:ORow),st.r[q]? =some (some R)->∃v xs,e.sg[q]? =some v/\OwnR w R.es v R.n xs/\Q3c e.chi R xs
 lo:∀q b,Qdd e st q b->w0.w.heap.size<=b\/b∈w0.mo
 hi:∀q b,Qdd e st q b->b<w.heap.size
 nd:∀q q' b,Qdd e st q b->Qdd e st q' b->q=q'
 no:∀q b,Qdd e st q b->∀k,¬Qhd e st k b
structure Ext (e:Env) (w0:Base) (st:St) (w:World):Prop where
 ok:∀q i j,j<(e.chi q i).n->∃b p,(e.chi q i).a=some ⟨b,p,none⟩/\b<w.heap.size/\b ∉ w0.mo/\(∀k,¬Qhd e st k b)/\(∀q',¬Qdd e st q' b)/\
  ∃vs,isL ⟨[],e.chi,[]⟩ ((e.chi q i).el j) vs/\∀(t:Nat) (v:Value),vs[t]? =some v->w.cell? ⟨b,p+(j * (e.chi q i).size+t),none⟩=some v
 ex:∀b o,w0.ex b=some o->w0.w.heap.size<=b/\b ∉ w0.mo/\w.heap[b]? =some o/\(∀k,¬Qhd e st k b)/\(∀q,¬Qdd e st q b)
 exx:∀q i j b p,j<(e.chi q i).n->(e.chi q i).a=some ⟨b,p,none⟩->w0.ex b=none
structure Fit (e:Env) (w0:Base) (st:St) (a:Act) (s:List Act) (w:World):Prop where
 fr:Qzl e st.fr s
 dfr:a.defers=[]
 tm:isV e st.t a.tmps.toList
 blw:KB w0 w
 lo:∀(k b:Nat),e.rho[k]? =some b->w0.w.heap.size<=b\/b∈w0.mo
 hi:∀(k b:Nat),e.rho[k]? =some b->b<w.heap.size
 nd:∀(j k b:Nat),e.rho[j]? =some b->e.rho[k]? =some b->j=k
 len:e.rho.length=st.h.length
 cells:∀(k b:Nat) (cs:List SC),e.rho[k]? =some b->st.h[k]? =some (some cs)->∃vs t,w.heap[b]? =some (.cells vs t (0,0))/\isL e cs vs.toList
 ext:Ext e w0 st w
 pre:∀(i b:Nat),w0.mo[i]? =some b->e.rho[i]? =some b
 rows:Rows e w0 st w
theorem OwnR.form {w:World} {es n:Nat} {v:Value} {xs:List Value} (h:OwnR w es v n xs):∃a c,v=.slice a n c:=by
 rcases h.2.2 with ⟨rfl,rfl⟩|⟨g,o,cap,cur,ty,rfl,_⟩
 · exact ⟨_,_,rfl⟩
 · exact ⟨_,_,rfl⟩
theorem OwnR.kept {w w':World} {es n:Nat} {v:Value} {xs:List Value} (h:OwnR w es v n xs) (hk:∀b,v.ownBlock=some b->w'.heap[b]? =w.heap[b]?):OwnR w' es v n xs:=by
 refine ⟨h.1,h.2.1,?_⟩
 rcases h.2.2 with hn|⟨g,o,cap,cur,ty,rfl,hg,rest⟩
 · exact .inl hn
 · exact .inr ⟨g,o,cap,cur,ty,rfl,by rw[hk g rfl];exact hg,rest⟩
theorem Rows.kept {e e':Env} {w0:Base} {st st':St} {w w':World} (h:Rows e w0 st w) (hs:e'.sg=e.sg) (hc:e'.chi=e.chi) (hr:st'.r=st.r) (hsz:w.heap.size<=w'.heap.size) (hb:∀q b,Qdd e st q b->w'.heap[b]? =w.heap[b]?)
 (hH:∀k b,Qhd e' st' k b->Qhd e st k b\/w.heap.size<=b):Rows e' w0 st' w':=by
 have hR:∀q b,Qdd e' st' q b->Qdd e st q b:=fun q b ⟨R,v,h1,h2,h3⟩=>⟨R,v,hr▸h1,hs▸h2,h3⟩
 refine ⟨by rw[hs,hr];exact h.len,fun q R hq=>?_,fun q b hq=>h.lo q b (hR q b hq),fun q b hq=>Nat.lt_of_lt_of_le (h.hi q b (hR q b hq)) hsz,fun q q' b h1 h2=>h.nd q q' b (hR q b h1) (hR q' b h2),fun q b hq k hk=>?_⟩
 · rw[hr] at hq
   obtain ⟨v,xs,h1,h2,h3⟩:=h.row q R hq
   refine ⟨v,xs,by rw[hs];exact h1,h2.kept fun b hv=>hb q b ⟨R,v,hq,h1,hv⟩,?_⟩
   rw[hc];exact h3
 · rcases hH k b hk with g|g
   · exact h.no q b (hR q b hq) k g
   · have:=h.hi q b (hR q b hq);omega
theorem Ext.kept {e e':Env} {w0:Base} {st st':St} {w w':World} (h:Ext e w0 st w) (hc:e'.chi=e.chi) (hsz:w.heap.size<=w'.heap.size) (hb:∀b,b<w.heap.size->b ∉ w0.mo->(∀k,¬Qhd e st k b)->(∀q,¬Qdd e st q b)->w'.heap[b]? =w.heap[b]?)
 (hH:∀k b,Qhd e' st' k b->Qhd e st k b\/w.heap.size<=b) (hR:∀q b,Qdd e' st' q b->Qdd e st q b\/(∃k,Qhd e st k b)\/w.heap.size<=b):Ext e' w0 st' w':=by
 refine ⟨fun q i j hj=>?_,fun b o hbo=>?_,by rw[hc];exact h.exx⟩
 rotate_left
 · obtain ⟨g1,g2,g3,g4,g5⟩:=h.ex b o hbo
   have hlt:b<w.heap.size:=(Array.getElem?_eq_some_iff.1 g3).1
   refine ⟨g1,g2,(hb b hlt g2 g4 g5).trans g3,fun k hk=>?_,fun q hq=>?_⟩
   · rcases hH k b hk with g|g
     · exact g4 k g
     · omega
   · rcases hR q b hq with g|⟨k,g⟩|g
     · exact g5 q g
     · exact g4 k g
     · omega
 rw[hc] at hj⊢
 obtain ⟨b,p,h1,h2,h3,h4,h5,vs,h6,h7⟩:=h.ok q i j hj
 refine ⟨b,p,h1,by omega,h3,fun k hk=>?_,fun q' hq=>?_,vs,h6,fun t v ht=>?_⟩
 · rcases hH k b hk with g|g
   · exact h4 k g
   · omega
 · rcases hR q' b hq with g|⟨k,g⟩|g
   · exact h5 q' g
   · exact h4 k g
   · omega
 · rw[World.cell?_of_block (w:=w) (hb b h2 h3 h4 h5)]
   exact h7 t v ht
theorem Qyv {c:R9z} {r:List Nat} {g:List Value}:∀{l:List (Nat×Nat)} {vs:List Value},Qfd ⟨[],c,[]⟩ l vs->Qfd ⟨r,c,g⟩ l vs
 | [],[],_=>trivial
 | (k,o)::l,v::vs,⟨⟨x,hx,_⟩,_⟩=>by simp at hx
 | [],_::_,h=>h.elim
 | _::_,[],h=>h.elim
theorem SC.is_nil {c:R9z} {r:List Nat} {g:List Value} {x:SC} {v:Value} (h:x.is ⟨[],c,[]⟩ v):x.is ⟨r,c,g⟩ v:=by
 cases x<;>try exact h
 case ptr k o=>obtain ⟨x,hx,_⟩:=h;simp at hx
 case pi k o=>obtain ⟨x,hx,_⟩:=h;simp at hx
 case sl k o n c=>obtain ⟨x,hx,_⟩:=h;simp at hx
 case rs q=>obtain ⟨h1,_⟩:=h;simp at h1
 case rp q es j o=>obtain ⟨_,_,_,_,h1,_⟩:=h;simp at h1
 case fn f cap=>obtain ⟨vs,hv,hc⟩:=h;exact ⟨vs,hv,Qyv hc⟩
theorem Qpn {c:R9z} {r:List Nat} {g:List Value}:∀{l:List SC} {vs:List Value},isL ⟨[],c,[]⟩ l vs->isL ⟨r,c,g⟩ l vs
 | [],[],_=>trivial
 | c::l,v::vs,h=>⟨SC.is_nil h.1,Qpn h.2⟩
 | [],_::_,h=>h.elim
 | _::_,[],h=>h.elim
theorem Q5c (b o n:Nat):Addr.add ⟨b,o,none⟩ n=⟨b,o+n,none⟩:=Addr.add_mid b o n
theorem Qrc {t:Nat} {y:Ty} (hT:TyF P t y) {e:Env} {cs:List SC} {vs:List Value} {x:SV} (hl:isL e cs vs) (hn:cs.length=y.size) (hx:Qef y.agg cs=some x) {b o:Nat}
 (hc:∀(j:Nat) (v:Value),vs[j]? =some v->w.cell? ⟨b,o+j,none⟩=some v):
 ∃v,x.is e v/\(Instr.loadAt t (.pointer (some ⟨b,o,none⟩))).run P w=.ok v w:=by
 obtain ⟨i,d,z,h1,h2,h3,h4,h5,_⟩:=hT.ex
 have hlen:=Qza hl
 unfold Qef at hx
 cases ha:y.agg with
 | true=>
   rw[ha] at hx
   simp only[if_true] at hx
   cases hx
   refine ⟨.agg vs.toArray,⟨_,rfl,by simpa using hl⟩,?_⟩
   exact run_loadAt_mid w b o t vs d hc h2 (by rw[h5,ha]) (by simp[h1,h3];omega)
 | false=>
   rw[ha] at hx
   simp only[Bool.false_eq_true,if_false] at hx
   split at hx
   · cases hx
     match vs,hl with
     | [v],hl=>
       have hv:=hc 0 v (by simp)
       refine ⟨v,hl.1,?_⟩
       simp only[Instr.loadAt,Instr.sureAddr,Sem.run_bind,Sem.run_pure,Result.andThen_ok,loadVar,Qai h2,h5,ha,Bool.false_eq_true,if_false]
       simp only[Nat.add_zero] at hv
       simp[hv]
   · cases hx
theorem Qvb:∀(vs:List Value) (i:Nat) (w:World) (b o:Nat) (old:Array Value) (t:TypeId),w.heap[b]? =some (.cells old t (0,0))->o+i+vs.length<=old.size->(∀v∈vs,v.oneCell'=true)->
 ∃w',(storeCells ⟨b,o,none⟩ vs i).run P w=.ok () w'/\w'.heap[b]? =some (.cells (Qka old.toList (o+i) vs).toArray t (0,0))/\(∀k,k≠b->w'.heap[k]? =w.heap[k]?)/\w'.heap.size=w.heap.size/\w'.os=w.os/\w'.tape=w.tape/\w'.output=w.output
 | [],i,w,b,o,old,t,hb,_,_=>by
   refine ⟨w,rfl,?_,fun _ _=>rfl,rfl,rfl,rfl,rfl⟩
   have:Qka old.toList (o+i) ([]:List Value)=old.toList:=by cases old.toList<;>simp[Qka]
   rw[this];simpa using hb
 | v::vs,i,w,b,o,old,t,hb,hn,h1=>by
   simp only[List.length_cons] at hn
   have hc:w.cell? ⟨b,o+i,none⟩=some (old[o+i]'o9):=by
    rw[cell_of_row w b (o+i) old t (0,0) hb];simp
   have hf:w.frozen? ⟨b,o+i,none⟩=false:=by simp[World.frozen?,hb]
   have hst:(store ((⟨b,o,none⟩:Addr).add i) v).run P w=.ok () (w.setCell ⟨b,o+i,none⟩ v):=by
    rw[Q5c,run_store P w _ v _ (h1 v (by simp)),hc,hf];rfl
   have hlt:b<w.heap.size:=(Array.getElem?_eq_some_iff.1 hb).1
   have hb':(w.setCell ⟨b,o+i,none⟩ v).heap[b]? =some (.cells (old.setIfInBounds (o+i) v) t (0,0)):=by
    simp only[World.setCell,Array.getElem?_modify,hb]
    simp
   obtain ⟨w',e1,e2,e3,e4,e5,e6,e7⟩:=Qvb vs (i+1) _ b o _ t hb' (by simp;omega) (fun u hu=>h1 u (by simp[hu]))
   refine ⟨w',?_,?_,fun k hk=>?_,?_,e5.trans rfl,e6.trans rfl,e7.trans rfl⟩
   · simp only[storeCells,Sem.run_bind,hst,Result.andThen_ok,e1]
   · rw[e2]
     congr 2
     apply Array.ext_getElem?
     intro j
     simp only[List.getElem?_toArray,Array.toList_setIfInBounds]
     rw[Q9a _ _ _ _ (by simp;omega),Q9a _ _ _ _ (by simp;omega)]
     simp only[List.length_cons,List.getElem?_set,Array.length_toList]
     by_cases g0:j=o+i
     · subst g0
       have:o+i<o+(i+1):=by omega
       simp[this]
       omega
     · have g0':¬o+i=j:=fun e=>g0 e.symm
       by_cases g1:j<o+i
       · have:j<o+(i+1):=by omega
         simp[g1,this,g0']
       · have g2:¬j<o+(i+1):=by omega
         simp only[g1,g2,if_false,g0']
         by_cases g3:j<o+(i+1)+vs.length
         · rw[if_pos g3,if_pos o9]
           have:j - (o+i)=(j - (o+(i+1)))+1:=by omega
           rw[this];simp
         · rw[if_neg g3,if_neg o9]
   · rw[e3 k hk,Below.heap_setCell _ _ _ _ (by simpa using hk)]
   · rw[e4];simp[World.setCell]
end
section
variable {P:Program} {w:World}
theorem Q7f:∀{z l:List SC},Qfc z l=true->z.length=l.length
 | [],[],_=>rfl
 | x::xs,y::ys,h=>by simp only[Qfc,Bool.and_eq_true] at h;simp[Q7f h.2]
 | [],_::_,h=>by simp[Qfc] at h
 | _::_,[],h=>by simp[Qfc] at h
theorem Q8i:∀{z l:List SC} (n:Nat),Qfc z l=true->Qfc (z.take n) (l.take n)=true
 | [],[],n,_=>by simp[Qfc]
 | x::xs,y::ys,0,_=>by simp[Qfc]
 | x::xs,y::ys,n+1,h=>by
   simp only[Qfc,Bool.and_eq_true] at h
   simp only[List.take_succ_cons,Qfc,Bool.and_eq_true]
   exact ⟨h.1,Q8i n h.2⟩
 | [],_::_,_,h=>by simp[Qfc] at h
 | _::_,[],_,h=>by simp[Qfc] at h
theorem Q7i:∀{z l:List SC} (n:Nat),Qfc z l=true->Qfc (z.drop n) (l.drop n)=true
 | [],[],n,_=>by simp[Qfc]
 | x::xs,y::ys,0,h=>h
 | x::xs,y::ys,n+1,h=>by
   simp only[Qfc,Bool.and_eq_true] at h
   simpa using Q7i n h.2
 | [],_::_,_,h=>by simp[Qfc] at h
 | _::_,[],_,h=>by simp[Qfc] at h
theorem Qi0 {x y:SC} {xs ys:List SC} {b:Bool} (h:eqL and (x::xs) (y::ys)=some b):∃a c,eqC x y=some a/\eqL and xs ys=some c/\b=(a&&c):=by
 match xs,ys with
 | [],[]=>exact ⟨b,true,by simpa [eqL] using h,by simp[eqL],by simp⟩
 | _::_,[]=>simp only[eqL] at h;(repeat' split at h)<;>simp_all[eqL]
 | [],_::_=>simp only[eqL] at h;(repeat' split at h)<;>simp_all[eqL]
 | x'::xs',y'::ys'=>
   rw[eqL] at h
   · split at h
     · rename_i a c h1 h2
       cases h
       exact ⟨a,c,h1,h2,rfl⟩
     · cases h
   · intro a b;cases a
theorem Qwq {x y:SC} {xs ys:List SC} {a c:Bool} (h1:eqC x y=some a) (h2:eqL and xs ys=some c):eqL and (x::xs) (y::ys)=some (a&&c):=by
 match xs,ys with
 | [],[]=>simp[eqL] at h2;subst h2;simp[eqL,h1]
 | _::_,[]=>simp[eqL] at h2
 | [],_::_=>simp[eqL] at h2
 | x'::xs',y'::ys'=>
   rw[eqL]
   · simp[h1,h2]
   · intro a b;cases a
theorem Q3o:∀{l l':List SC} {b:Bool} (n:Nat),eqL and l l'=some b->∃b1 b2,eqL and (l.take n) (l'.take n)=some b1/\eqL and (l.drop n) (l'.drop n)=some b2/\b=(b1&&b2)
 | [],[],b,n,h=>by simp[eqL] at h;subst h;exact ⟨true,true,by simp[eqL],by simp[eqL],rfl⟩
 | x::xs,y::ys,b,0,h=>⟨true,b,by simp[eqL],h,by simp⟩
 | x::xs,y::ys,b,n+1,h=>by
   obtain ⟨a,c,h1,h2,rfl⟩:=Qi0 h
   obtain ⟨b1,b2,g1,g2,rfl⟩:=Q3o n h2
   exact ⟨a&&b1,b2,by simpa using Qwq h1 g1,by simpa using g2,by simp[Bool.and_assoc]⟩
 | [],_::_,_,_,h=>by simp[eqL] at h
 | _::_,[],_,_,h=>by simp[eqL] at h
theorem Qys {e:Env} {l:List SC} {vs:List Value} (h:isL e l vs) (n:Nat):isL e (l.take n) (vs.take n):=by
 have:=Qve h 0 n
 rw[Qqk] at this
 simpa using this
theorem Qvs {e:Env} {l:List SC} {vs:List Value} (h:isL e l vs) (n:Nat):isL e (l.drop n) (vs.drop n):=by
 have hl:=Qza h
 refine Qxs (by simp[hl]) (fun j c v h1 h2=>?_)
 simp only[List.getElem?_drop] at h1 h2
 exact Qhp h h1 h2
def Qsf (g:Bool) (vs:List Value):Value:=if g then .agg vs.toArray else vs.headD undef
theorem Qbi {t n o : Nat} {i : TypeInfo} {u : TypeDesc} (h1 : P.info? t = some i) (h2 : P.underlying t = some u) (hn : i.size = n) (hu : u.isRow = true \/ n = 1) (xs : Array Value) (ho : o + n <= xs.size) :
    (part t xs o).run P w = .ok (Qsf u.isRow ((xs.toList.drop o).take n)) w := by
  unfold part Qsf
  rw [Sem.run_bind, Qai h2]
  simp only [Result.andThen_ok]
  cases hr : u.isRow with
  | true =>
    simp only [if_true, Sem.run_bind, Qnb h1, Result.andThen_ok, Sem.run_pure, hn]
    congr 2
    apply Array.ext'
    simp [Array.toList_extract]
  | false =>
    have : n = 1 := by rcases hu with hu | hu; · rw [hr] at hu; cases hu
                       · exact hu
    subst this
    have hlt : o < xs.size := by omega
    have e : (xs.toList.drop o).take 1 = [xs[o]] := by
      rw [List.drop_eq_getElem_cons (by simpa using hlt)]; simp
    rw [e]
    simp [hlt]
theorem Qsq (e:Env):∀(d:Nat) (t:Nat) (z:List SC),Qm2 P d t z=true->∀(D:Nat),d<=D->∀(u:TypeDesc),P.underlying t=some u->∀(l l':List SC) (vs vs':List Value) (b:Bool),
 Qfc z l=true->Qfc z l'=true->isL e l vs->isL e l' vs'->eqL and l l'=some b->(Op.equalIn D t (Qsf u.isRow vs) (Qsf u.isRow vs')).run P w=.ok b w
 | 0,t,z,h,_,_,_,_,_,_,_,_,_,_,_,_,_,_=>by simp[Qm2] at h
 | d+1,t,z,h,D,hD,u,hu,l,l',vs,vs',b,k1,k2,i1,i2,hb=>by
   obtain ⟨D,rfl⟩:∃D',D=D'+1:=⟨D - 1,by omega⟩
   unfold Qm2 at h
   rw[hu] at h
   cases u with
   | bool=>
     simp only at h
     split at h
     · match l,l',vs,vs',k1,k2,i1,i2,hb with
       | [x],[y],[v],[v'],k1,k2,i1,i2,hb=>
         simp only[Qfc,Bool.and_true] at k1 k2
         have hx:∃p,v=.bool p/\(x=.bool p\/x=.lit p):=by
          cases x<;>simp[Qux] at k1
          · exact ⟨_,i1.1,.inl rfl⟩
          · exact ⟨_,i1.1,.inr rfl⟩
         have hy:∃q,v'=.bool q/\(y=.bool q\/y=.lit q):=by
          cases y<;>simp[Qux] at k2
          · exact ⟨_,i2.1,.inl rfl⟩
          · exact ⟨_,i2.1,.inr rfl⟩
         obtain ⟨p,rfl,hx⟩:=hx
         obtain ⟨q,rfl,hy⟩:=hy
         have:b=(p==q):=by rcases hx with rfl|rfl<;>rcases hy with rfl|rfl<;>simp[eqL,eqC] at hb<;>exact hb.symm
         subst this
         simp only[Qsf,Bool.false_eq_true,if_false,List.headD_cons]
         exact run_equalIn_bool' w D t p q hu
       | [],_,_,_,k1,_,_,_,_=>simp[Qfc] at k1
       | _::_::_,_,_,_,k1,_,_,_,_=>simp[Qfc] at k1
       | _,[],_,_,_,k2,_,_,_=>simp[Qfc] at k2
       | _,_::_::_,_,_,_,k2,_,_,_=>simp[Qfc] at k2
     · cases h
   | int k=>
     simp only at h
     split at h
     · rename_i k' n0
       match l,l',vs,vs',k1,k2,i1,i2,hb with
       | [x],[y],[v],[v'],k1,k2,i1,i2,hb=>
         simp only[Qfc,Bool.and_true] at k1 k2
         have hx:∃p,v=.int k' p/\x=.int k' p:=by
          cases x<;>simp[Qux] at k1
          subst k1;exact ⟨_,i1.1,rfl⟩
         have hy:∃p,v'=.int k' p/\y=.int k' p:=by
          cases y<;>simp[Qux] at k2
          subst k2;exact ⟨_,i2.1,rfl⟩
         obtain ⟨p,rfl,rfl⟩:=hx
         obtain ⟨q,rfl,rfl⟩:=hy
         have:b=(p==q):=by simp[eqL,eqC] at hb;exact hb.symm
         subst this
         simp only[Qsf,Bool.false_eq_true,if_false,List.headD_cons]
         exact run_equalIn_int w D t k' k p q hu
       | [],_,_,_,k1,_,_,_,_=>simp[Qfc] at k1
       | _::_::_,_,_,_,k1,_,_,_,_=>simp[Qfc] at k1
       | _,[],_,_,_,k2,_,_,_=>simp[Qfc] at k2
       | _,_::_::_,_,_,_,k2,_,_,_=>simp[Qfc] at k2
     · cases h
   | struct fs=>
     simp only[Bool.and_eq_true,Bool.not_eq_true'] at h
     obtain ⟨⟨hst,_⟩,hgo⟩:=h
     simp only[Qsf,if_true]
     have hfs:P.fieldsOf t=fs:=by simp[Program.fieldsOf,hu]
     rw[run_equalIn_agg w D t _ _ (by rw[hfs];exact hu) hst,hfs]
     have key:∀(fs:List Field) (z:List SC) (o:Nat) (l l':List SC) (b:Bool),o<=vs.length->o<=vs'.length->goC P (Qm2 P d) fs z o=true->Qfc z l=true->Qfc z l'=true->isL e l (vs.drop o)->isL e l' (vs'.drop o)->eqL and l l'=some b->
      (Op.eqFields D vs.toArray vs'.toArray fs).run P w=.ok b w:=by
      intro fs
      induction fs with
      | nil=>
        intro z o l l' b y1 y2 hg k1 k2 _ _ hb
        simp only[goC,List.isEmpty_iff] at hg
        subst hg
        match l,l',k1,k2 with
        | [],[],_,_=>simp[eqL] at hb;subst hb;simp[Op.eqFields]
        | _::_,_,k1,_=>simp[Qfc] at k1
        | _,_::_,_,k2=>simp[Qfc] at k2
      | cons f fs ih=>
        intro z o l l' b y1 y2 hg k1 k2 j1 j2 hb
        simp only[goC,Bool.and_eq_true,decide_eq_true_eq,beq_iff_eq] at hg
        obtain ⟨⟨hname,hoff⟩,hg⟩:=hg
        split at hg
        · rename_i i u' hi hu'
          simp only[Bool.and_eq_true,Bool.or_eq_true,beq_iff_eq,decide_eq_true_eq] at hg
          obtain ⟨⟨⟨hrow,hsz⟩,hc⟩,hrest⟩:=hg
          have n1:=Q7f k1
          have n2:=Q7f k2
          have m1:=Qza j1
          have m2:=Qza j2
          simp only[List.length_drop] at m1 m2
          obtain ⟨b1,b2,hb1,hb2,rfl⟩:=Q3o i.size hb
          have q1:(part f.type vs.toArray f.offset).run P w=.ok (Qsf u'.isRow ((vs.drop o).take i.size)) w:=by
           have:=Qbi (w:=w) hi hu' rfl hrow vs.toArray (o:=o) (by simp;omega)
           rw[hoff];simpa using this
          have q2:(part f.type vs'.toArray f.offset).run P w=.ok (Qsf u'.isRow ((vs'.drop o).take i.size)) w:=by
           have:=Qbi (w:=w) hi hu' rfl hrow vs'.toArray (o:=o) (by simp;omega)
           rw[hoff];simpa using this
          have q3:=Qsq e d f.type _ hc D o9 u' hu' _ _ _ _ b1 (Q8i i.size k1) (Q8i i.size k2) (Qys j1 i.size) (Qys j2 i.size) hb1
          simp only[Op.eqFields,if_pos hname,Sem.run_bind,q1,q2,q3,Result.andThen_ok,Sem.run_ite]
          cases b1 with
          | false=>simp
          | true=>
            simp only[Bool.not_true,Bool.false_eq_true,if_false,Bool.true_and]
            refine ih (z.drop i.size) (o+i.size) (l.drop i.size) (l'.drop i.size) b2 o9 o9 hrest (Q7i _ k1) (Q7i _ k2) ?_ ?_ hb2
            · have:=Qvs j1 i.size;simpa [Nat.add_comm] using this
            · have:=Qvs j2 i.size;simpa [Nat.add_comm] using this
        · cases hg
     exact key fs.toList z 0 l l' b (Nat.zero_le _) (Nat.zero_le _) hgo k1 k2 (by simpa using i1) (by simpa using i2) hb
   | _=>simp at h
theorem Q6o:∀(xs:List Value) (j:Nat) (off:Nat) (cs:Array Value),off+j+xs.length<=cs.size->
 ((xs.zipIdx j).foldl (fun (cs:Array Value) (p:Value×Nat)=>cs.setIfInBounds (off+p.2) p.1) cs).toList=Qka cs.toList (off+j) xs
 | [],j,off,cs,_=>by
   have:Qka cs.toList (off+j) ([]:List Value)=cs.toList:=by cases cs.toList<;>simp[Qka]
   simp[this]
 | x::xs,j,off,cs,h=>by
   simp only[List.length_cons] at h
   simp only[List.zipIdx_cons,List.foldl_cons]
   rw[Q6o xs (j+1) off _ (by simp;omega)]
   apply List.ext_getElem?
   intro n
   simp only[Array.toList_setIfInBounds]
   rw[Q9a _ _ _ _ (by simp;omega),Q9a _ _ _ _ (by simp;omega)]
   simp only[List.length_cons,List.getElem?_set,Array.length_toList]
   by_cases g0:n=off+j
   · subst g0
     have:off+j<off+(j+1):=by omega
     simp[this]
     omega
   · have g0':¬off+j=n:=fun e=>g0 e.symm
     by_cases g1:n<off+j
     · have:n<off+(j+1):=by omega
       simp[g1,this,g0']
     · have g2:¬n<off+(j+1):=by omega
       simp only[g1,g2,if_false,g0']
       by_cases g3:n<off+(j+1)+xs.length
       · rw[if_pos g3,if_pos o9]
         have:n - (off+j)=(n - (off+(j+1)))+1:=by omega
         rw[this];simp
       · rw[if_neg g3,if_neg o9]
theorem Q8m {e:Env} {st:St} {a:Act} (ht:isV e st.t a.tmps.toList) {fs:List (Nat×Nat×Bool)} {place:Nat->Option (Nat×Nat)} (hp:∀i o n g,fs[i]? =some (o,n,g)->place i=some (o,n)):
 ∀(parts:List (Nat×Operand)) (z cs:List SC) (zs:Array Value),isL e z zs.toList->Q1q fs z parts st=some cs->
  ∃vs,Instr.fill place zs (parts.map fun p=>(p.1,a.eval p.2))=some vs/\isL e cs vs.toList
 | [],z,cs,zs,hz,h=>by simp only[Q1q,Option.some.injEq] at h;subst h;exact ⟨zs,rfl,hz⟩
 | (i,x)::l,z,cs,zs,hz,h=>by
  simp only[Q1q] at h
  split at h
  · rename_i o n g c h1 h2
    split at h
    · rename_i hn
      split at h
      · rename_i ho
        rw[Qva] at h1
        obtain ⟨hc,_⟩:=SV.cells_is (Qab ht x) h2
        have lc:=Qza hc
        have lz:=Qza hz
        simp only[Array.length_toList] at lc lz
        have hz':=Qxk hz hc o o9
        have hf:=Q6o (a.eval x).cells.toList 0 o zs (by simp;omega)
        have hz'':isL e (Qka z o c) ((a.eval x).cells.zipIdx.foldl (fun (cs:Array Value) (p:Value×Nat)=>cs.setIfInBounds (o+p.2) p.1) zs).toList:=by
         rw[<-Array.foldl_toList,Array.toList_zipIdx,hf];exact hz'
        obtain ⟨vs,hv,hi⟩:=Q8m ht hp l _ _ _ hz'' h
        refine ⟨vs,?_,hi⟩
        simp only[List.map_cons,Instr.fill,hp _ _ _ _ h1]
        rw[if_neg (by simp;omega)]
        exact hv
      · cases h
    · cases h
  · cases h
end
end Go.Proofs.Ytemnfncbgalljab
