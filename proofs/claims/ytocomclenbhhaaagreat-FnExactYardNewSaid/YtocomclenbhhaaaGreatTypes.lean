/- The plain data of the scheduler. Printed by wip/gen.py. -/
namespace Go.Proofs.YtocomclenbhhaaaGreat
@[ext] structure Span where
  from_ : Int
  to_ : Int
  deriving DecidableEq, Inhabited
@[ext] structure Label where
  level : Int
  set : Int
  deriving DecidableEq, Inhabited
@[ext] structure Node where
  state : Int
  books : List Span
  deriving DecidableEq, Inhabited
@[ext] structure Use where
  label : Label
  owner : ByteArray
  used : Int
  deriving DecidableEq, Inhabited
@[ext] structure Task where
  label : Label
  id : Int
  owner : ByteArray
  need : Int
  long : Int
  prio : Int
  under : Label
  after : Int
  born : Int
  state : Int
  start : Int
  nodes : List Int
  deriving DecidableEq, Inhabited
@[ext] structure Wish where
  owner : ByteArray
  need : Int
  long : Int
  prio : Int
  under : Label
  after : Int
  count : Int
  deriving DecidableEq, Inhabited
@[ext] structure Pair where
  from_ : Label
  to_ : Label
  rate : Int
  deriving DecidableEq, Inhabited
@[ext] structure Quota where
  label : Label
  most : Int
  deriving DecidableEq, Inhabited
@[ext] structure Config where
  nodes : List (List Label)
  pairs : List Pair
  quotas : List Quota
  half : Int
  deriving DecidableEq, Inhabited
@[ext] structure Yard where
  config : Config
  nodes : List Node
  tasks : List Task
  uses : List Use
  now : Int
  deriving DecidableEq, Inhabited
@[ext] structure Note where
  at_ : Int
  word : Int
  deriving DecidableEq, Inhabited
@[ext] structure Box where
  next : List Int
  here : List Int
  log : List Note
  deriving DecidableEq, Inhabited
@[ext] structure Mail where
  boxes : List Box
  deriving DecidableEq, Inhabited
@[ext] structure Place where
  label : Label
  id : Int
  from_ : Int
  to_ : Int
  runs : Bool
  nodes : List Int
  deriving DecidableEq, Inhabited
@[ext] structure NodesOut where
  nodes : List Node
  code : Int
  deriving DecidableEq, Inhabited
@[ext] structure TaskOut where
  task : Task
  at_ : Int
  code : Int
  deriving DecidableEq, Inhabited
@[ext] structure YardOut where
  yard : Yard
  id : Int
  code : Int
  deriving DecidableEq, Inhabited
@[ext] structure ConfigOut where
  config : Config
  line : Int
  code : Int
  deriving DecidableEq, Inhabited
@[ext] structure MailOut where
  mail : Mail
  code : Int
  deriving DecidableEq, Inhabited
end Go.Proofs.YtocomclenbhhaaaGreat
